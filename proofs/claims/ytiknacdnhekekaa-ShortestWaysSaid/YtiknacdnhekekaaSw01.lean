/- Lemmas toward the given statement (part 1 of 16): Eng Run Draw Order Sky. Each theorem states its own conditions; nothing is assumed beyond them. -/
import Derived.WalkKit
import Derived.Deep.Quiet
import Derived.StillTail
import Derived.KernelRfl
section
namespace Go
abbrev Value.i (x : Int) : Value := .int .i64 x
abbrev Value.b (x : Bool) : Value := .bool x
abbrev Value.pt (b n : Nat) : Value := .pointer (some ⟨b, n, none⟩)
abbrev Value.p0 (b : Nat) : Value := .pointer (some ⟨b, 0, none⟩)
end Go
namespace Go.Eng
abbrev Slots := List (Nat × Value)
def w64 (x : Int) : Int := IntKind.i64.wrap x
def look (t : Nat) : Slots → Option Value
  | [] => none
  | (k, v) :: r => bif Nat.beq k t then some v else look t r
def rho (F : Slots) : Operand → Value
  | .tmp t => (look t F).getD undef
  | .const v => v
  | .global g => .pointer (some ⟨g, 0, none⟩)
  | .func f => .func (.func f) #[] #[]
def known (F : Slots) : Operand → Bool
  | .tmp t => (look t F).isSome
  | _ => true
structure Fr (n : Nat) (F : Slots) (a : Act) : Prop where
  size : a.tmps.size = n
  defers : a.defers = []
  has : ∀ t v, look t F = some v → a.tmps[t]? = some v
theorem Fr.eval {n : Nat} {F : Slots} {a : Act} (h : Fr n F a) (x : Operand) (hk : known F x = true) : a.eval x = rho F x := by
  cases x with
  | tmp t =>
    simp only [known] at hk
    obtain ⟨v, hv⟩ := Option.isSome_iff_exists.1 hk
    have := h.has t v hv
    simp only [Act.eval, rho, hv, Option.getD_some]
    rw [Array.getD_eq_getD_getElem?, this]; rfl
  | const v => rfl
  | global g => rfl
  | func f => rfl
theorem look_cons_self (t : Nat) (v : Value) (F : Slots) : look t ((t, v) :: F) = some v := by
  have : Nat.beq t t = true := by simp
  simp only [look, this, cond_true]
theorem look_cons_ne {t k : Nat} (v : Value) (F : Slots) (h : k ≠ t) : look t ((k, v) :: F) = look t F := by
  have : Nat.beq k t = false := by
    cases hb : Nat.beq k t with
    | false => rfl
    | true => exact absurd (Nat.eq_of_beq_eq_true hb) h
  simp only [look, this, cond_false]
theorem Fr.put {n d : Nat} {F : Slots} {a : Act} (h : Fr n F a) (hd : d < n) (v : Value) : Fr n ((d, v) :: F) (a.put (some d) v) := by
  refine ⟨by simpa [Act.put] using h.size, by simpa [Act.put] using h.defers, fun t u ht => ?_⟩
  by_cases e : d = t
  · subst e
    rw [look_cons_self] at ht
    have hs := h.size
    simp only [Option.some.injEq] at ht
    subst ht
    simp [Act.put, hs, hd]
  · rw [look_cons_ne v F e] at ht
    have := h.has t u ht
    simp [Act.put, Array.getElem?_setIfInBounds_ne e, this]
def pick : List Nat → Slots → Option Slots
  | [], _ => some []
  | k :: ks, G => match look k G with
    | some v => match pick ks G with
      | some r => some ((k, v) :: r)
      | none => none
    | none => none
theorem pick_look : ∀ (ks : List Nat) (G F : Slots), pick ks G = some F → ∀ t v, look t F = some v → look t G = some v
  | [], G, F, h, t, v, hl => by simp only [pick, Option.some.injEq] at h; subst h; cases hl
  | k :: ks, G, F, h, t, v, hl => by
    simp only [pick] at h
    split at h
    · rename_i u hu
      split at h
      · rename_i r hr
        simp only [Option.some.injEq] at h; subst h
        by_cases e : k = t
        · subst e; rw [look_cons_self] at hl; rw [hu]; exact hl
        · rw [look_cons_ne u r e] at hl; exact pick_look ks G r hr t v hl
      · cases h
    · cases h
theorem Fr.sub {n : Nat} {G F : Slots} {a : Act} (h : Fr n G a) (hs : ∀ t v, look t F = some v → look t G = some v) : Fr n F a :=
  ⟨h.size, h.defers, fun t v ht => h.has t v (hs t v ht)⟩
structure Ctx where
  w0 : World
  D : Nat → Prop
def no : Nat → Prop := fun _ => False
def cx (w : World) : Ctx := ⟨w, no⟩
structure Below (B : Nat) (w w' : World) : Prop where
  os : w'.os = w.os
  tape : w'.tape = w.tape
  output : w'.output = w.output
  size : w.heap.size ≤ w'.heap.size
  block : ∀ k, k < B → w'.heap[k]? = w.heap[k]?
  drawn : w.drawn ≤ w'.drawn
theorem Below.refl (B : Nat) (w : World) : Below B w w := ⟨rfl, rfl, rfl, Nat.le_refl _, fun _ _ => rfl, Nat.le_refl _⟩
theorem Below.kit {B : Nat} {w w' : World} (h : Below B w w') : Go.RowKit.Below B w w' := ⟨h.os, h.tape, h.output, h.size, h.block⟩
theorem Below.trans {B : Nat} {a b c : World} (h : Below B a b) (k : Below B b c) : Below B a c :=
  ⟨k.os.trans h.os, k.tape.trans h.tape, k.output.trans h.output, Nat.le_trans h.size k.size, fun i hi => (k.block i hi).trans (h.block i hi), Nat.le_trans h.drawn k.drawn⟩
theorem Below.drew {B : Nat} {a w : World} (h : Below B a w) : Below B a w.drew := ⟨h.os, h.tape, h.output, h.size, h.block, Nat.le_trans h.drawn (Nat.le_succ _)⟩
theorem Below.alloc {B : Nat} {a w : World} (h : Below B a w) (hB : B ≤ w.heap.size) (o : Obj) : Below B a (w.alloc o) :=
  h.trans ⟨rfl, rfl, rfl, by simp, fun k hk => Go.RowKit.Below.heap_alloc _ _ _ (by omega), Nat.le_refl _⟩
theorem Below.cell {B : Nat} {w w' : World} (h : Below B w w') {a : Addr} (ha : a.block < B) : w'.cell? a = w.cell? a := h.kit.cell ha
structure Chg (D : Nat → Prop) (w w' : World) : Prop where
  os : w'.os = w.os
  tape : w'.tape = w.tape
  output : w'.output = w.output
  size : w.heap.size ≤ w'.heap.size
  block : ∀ k, k < w.heap.size → ¬ D k → w'.heap[k]? = w.heap[k]?
  drawn : w.drawn ≤ w'.drawn
theorem Chg.refl (D : Nat → Prop) (w : World) : Chg D w w := ⟨rfl, rfl, rfl, Nat.le_refl _, fun _ _ _ => rfl, Nat.le_refl _⟩
theorem Chg.below {w w' : World} (h : Chg no w w') : Below w.heap.size w w' := ⟨h.os, h.tape, h.output, h.size, fun k hk => h.block k hk (fun h => h), h.drawn⟩
theorem Chg.of_below {D : Nat → Prop} {w w' : World} (h : Below w.heap.size w w') : Chg D w w' := ⟨h.os, h.tape, h.output, h.size, fun k hk _ => h.block k hk, h.drawn⟩
structure Res where
  foot : Nat → Prop
  holds : World → Prop
  lt : ∀ w, holds w → ∀ b, foot b → b < w.heap.size
  kept : ∀ w w', holds w → (∀ b, foot b → w'.heap[b]? = w.heap[b]?) → holds w'
abbrev Ent := (Nat × Obj) ⊕ Res
abbrev Mem := List Ent
abbrev Pa (b : Nat) : Option Addr := some ⟨b, 0, none⟩
abbrev Bk (b : Nat) (c : Array Value) (T : Nat) : Ent := .inl (b, .cells c T (0, 0))
abbrev AN := Option Addr × Nat
theorem Kr {α : Sort _} {a b : α} (h : a = b := by kernel_rfl) : a = b := h
def footE : Ent → Nat → Prop
  | .inl p => fun b => b = p.1
  | .inr r => r.foot
def holdsE : Ent → World → Prop
  | .inl p, w => w.heap[p.1]? = some p.2
  | .inr r, w => r.holds w
def apartE (e f : Ent) : Prop := ∀ b, footE e b → ¬ footE f b
theorem apartE.symm {e f : Ent} (h : apartE e f) : apartE f e := fun b h1 h2 => h b h2 h1
theorem heap_lt {w : World} {b : Nat} {o : Obj} (h : w.heap[b]? = some o) : b < w.heap.size := by
  rcases Nat.lt_or_ge b w.heap.size with hl | hg
  · exact hl
  · rw [Array.getElem?_eq_none hg] at h; cases h
theorem ltE {e : Ent} {w : World} (h : holdsE e w) : ∀ b, footE e b → b < w.heap.size := by
  cases e with
  | inl p => intro b hb; simp only [footE] at hb; subst hb; exact heap_lt h
  | inr r => exact r.lt w h
theorem keptE {e : Ent} {w w' : World} (h : holdsE e w) (hk : ∀ b, footE e b → w'.heap[b]? = w.heap[b]?) : holdsE e w' := by
  cases e with
  | inl p => exact (hk p.1 rfl).trans h
  | inr r => exact r.kept w w' h hk
structure Sat (w0 : Ctx) (M : Mem) (w : World) : Prop where
  chg : Chg w0.D w0.w0 w
  own : ∀ e ∈ M, holdsE e w ∧ ∀ b, footE e b → w0.D b ∨ w0.w0.heap.size ≤ b
  apart : M.Pairwise apartE
theorem Sat.start (w : World) : Sat (cx w) [] w := ⟨Chg.refl _ _, by simp, .nil⟩
theorem Sat.below {w : World} {M : Mem} {w' : World} (h : Sat (cx w) M w') : Below w.heap.size w w' := h.chg.below
theorem Sat.block {w0 : Ctx} {w : World} {M : Mem} (h : Sat w0 M w) {b : Nat} {o : Obj} (hp : Sum.inl (b, o) ∈ M) : w.heap[b]? = some o := (h.own _ hp).1
theorem Sat.lt {w0 : Ctx} {w : World} {M : Mem} (h : Sat w0 M w) {b : Nat} {o : Obj} (hp : Sum.inl (b, o) ∈ M) : b < w.heap.size := heap_lt (h.block hp)
theorem Sat.later {w0 : Ctx} {w w' : World} {M : Mem} (h : Sat w0 M w) (hb : Below w.heap.size w w') : Sat w0 M w' :=
  ⟨⟨hb.os.trans h.chg.os, hb.tape.trans h.chg.tape, hb.output.trans h.chg.output, Nat.le_trans h.chg.size hb.size, fun k hk hd => (hb.block k (Nat.lt_of_lt_of_le hk h.chg.size)).trans (h.chg.block k hk hd), Nat.le_trans h.chg.drawn hb.drawn⟩,
    fun e he => ⟨keptE (h.own e he).1 fun b hf => hb.block b (ltE (h.own e he).1 b hf), (h.own e he).2⟩, h.apart⟩
theorem Sat.sub {w0 : Ctx} {w : World} {M M' : Mem} (h : Sat w0 M w) (hs : M'.Sublist M) : Sat w0 M' w :=
  ⟨h.chg, fun p hp => h.own p (hs.subset hp), h.apart.sublist hs⟩
theorem Sat.perm {w0 : Ctx} {w : World} {M M' : Mem} (h : Sat w0 M w) (hs : M.Perm M') : Sat w0 M' w :=
  ⟨h.chg, fun p hp => h.own p (hs.mem_iff.2 hp), (hs.pairwise_iff (fun {_ _} h => apartE.symm h)).1 h.apart⟩
theorem Sat.push {w0 : Ctx} {w w' : World} {M : Mem} (h : Sat w0 M w) (hb : Below w.heap.size w w') (e : Ent) (he : holdsE e w') (hf : ∀ b, footE e b → w.heap.size ≤ b) : Sat w0 (e :: M) w' := by
  have h2 := h.later hb
  refine ⟨h2.chg, fun p hp => ?_, ?_⟩
  · rcases List.mem_cons.1 hp with rfl | hp
    · exact ⟨he, fun b hb => .inr (Nat.le_trans h.chg.size (hf b hb))⟩
    · exact h2.own p hp
  · refine List.pairwise_cons.2 ⟨fun f hfm b h1 h3 => ?_, h.apart⟩
    have := ltE (h.own f hfm).1 b h3
    have := hf b h1
    omega
theorem below_alloc (w : World) (o : Obj) : Below w.heap.size w (w.alloc o) := (Below.refl _ _).alloc (Nat.le_refl _) o
theorem Sat.alloc {w0 : Ctx} {w : World} {M : Mem} (h : Sat w0 M w) (o : Obj) : Sat w0 (.inl (w.heap.size, o) :: M) (w.alloc o) :=
  h.push (below_alloc w o) _ (heap_alloc_new w o) (fun b hb => by simp only [footE] at hb; omega)
theorem Sat.drawn {w0 : Ctx} {w : World} {M : Mem} (h : Sat w0 M w) (k : Nat) (hk : w.drawn ≤ k := by exact Nat.le_succ _) : Sat w0 M { w with drawn := k } :=
  h.later ⟨rfl, rfl, rfl, Nat.le_refl _, fun _ _ => rfl, hk⟩
theorem pairwise_set {R : Ent → Ent → Prop} (hs : ∀ {a b}, R a b → R b a) {M : Mem} (h : M.Pairwise R) {j : Nat} {e' : Ent} (he : ∀ i f, M[i]? = some f → i ≠ j → R e' f) : (M.set j e').Pairwise R := by
  rw [List.pairwise_iff_getElem] at h ⊢
  intro i k hi hk hik
  simp only [List.length_set] at hi hk
  rw [List.getElem_set, List.getElem_set]
  by_cases e1 : j = i
  · subst e1
    rw [if_pos rfl, if_neg (by omega)]
    exact he k _ (List.getElem?_eq_getElem hk) (by omega)
  · rw [if_neg e1]
    by_cases e2 : j = k
    · subst e2
      rw [if_pos rfl]
      exact hs (he i _ (List.getElem?_eq_getElem hi) (by omega))
    · rw [if_neg e2]
      exact h i k hi hk hik
theorem apart_at {M : Mem} (h : M.Pairwise apartE) {i j : Nat} {e f : Ent} (hi : M[i]? = some e) (hj : M[j]? = some f) (hne : i ≠ j) : apartE e f := by
  rw [List.pairwise_iff_getElem] at h
  obtain ⟨a1, rfl⟩ := List.getElem?_eq_some_iff.1 hi
  obtain ⟨a2, rfl⟩ := List.getElem?_eq_some_iff.1 hj
  rcases Nat.lt_or_gt_of_ne hne with hl | hl
  · exact h i j a1 a2 hl
  · exact (h j i a2 a1 hl).symm
theorem Sat.step {w0 : Ctx} {w w' : World} {M : Mem} (h : Sat w0 M w) {j : Nat} {e e' : Ent} (hj : M[j]? = some e) (hc : Chg (footE e) w w') (he : holdsE e' w')
    (hf : ∀ b, footE e' b → footE e b ∨ w.heap.size ≤ b) : Sat w0 (M.set j e') w' := by
  have hmem := List.mem_of_getElem? hj
  have howe := h.own _ hmem
  refine ⟨⟨hc.os.trans h.chg.os, hc.tape.trans h.chg.tape, hc.output.trans h.chg.output, Nat.le_trans h.chg.size hc.size, fun k hk hd => ?_, Nat.le_trans h.chg.drawn hc.drawn⟩, fun f hfm => ?_, pairwise_set apartE.symm h.apart ?_⟩
  · refine (hc.block k (Nat.lt_of_lt_of_le hk h.chg.size) fun hfk => ?_).trans (h.chg.block k hk hd)
    rcases howe.2 k hfk with h1 | h1
    · exact hd h1
    · omega
  · obtain ⟨i, hi⟩ := List.getElem?_of_mem hfm
    rw [List.getElem?_set] at hi
    by_cases e1 : j = i
    · rw [if_pos e1] at hi
      split at hi
      · simp only [Option.some.injEq] at hi
        subst hi
        refine ⟨he, fun b hb => ?_⟩
        rcases hf b hb with h1 | h1
        · exact howe.2 b h1
        · exact .inr (Nat.le_trans h.chg.size h1)
      · cases hi
    · rw [if_neg e1] at hi
      have hfo := h.own f (List.mem_of_getElem? hi)
      exact ⟨keptE hfo.1 fun b hb => hc.block b (ltE hfo.1 b hb) fun hb2 => apart_at h.apart hj hi e1 b hb2 hb, hfo.2⟩
  · intro i f hi hne b h1 h2
    rcases hf b h1 with h3 | h3
    · exact apart_at h.apart hj hi (Ne.symm hne) b h3 h2
    · have := ltE (h.own f (List.mem_of_getElem? hi)).1 b h2
      omega
theorem Sat.store {w0 : Ctx} {w : World} {M : Mem} (h : Sat w0 M w) {j b : Nat} {c : Array Value} {T : TypeId} (hj : M[j]? = some (.inl (b, .cells c T (0, 0)))) {x : Addr} (hx : x.block = b)
    (hs : x.spot = none) (v : Value) : Sat w0 (M.set j (.inl (b, .cells (c.setIfInBounds x.off v) T (0, 0)))) (w.setCell x v) := by
  have hb := h.block (List.mem_of_getElem? hj)
  refine h.step hj ⟨rfl, rfl, rfl, by simp [World.setCell], fun k _ hk => Go.RowKit.Below.heap_setCell _ _ _ _ (fun e => hk (by rw [e, hx]; rfl)), Nat.le_refl _⟩ ?_ (fun b' hb' => .inl hb')
  simp [holdsE, World.setCell, Array.getElem?_modify, hx, hb, hs]
def mr {α : Type} (P : Program) (M : Mem) (j : Nat) : Sem α → Option (α × List (Nat × Nat))
  | .pure a => some (a, [])
  | .program k => mr P M j (k P)
  | .mark _ k => mr P M j k
  | .load _ a k => match M[j]? with
    | some (.inl (b, .cells c _ _)) => match a.spot with
      | none => match c[a.off]? with
        | some v => match mr P M j (k v) with
          | some (r, es) => some (r, (a.block, b) :: es)
          | none => none
        | none => none
      | some _ => none
    | _ => none
  | .shape r k => match M[j]? with
    | some (.inl (b, .cells c T _)) => match mr P M j (k (some (T, c.size))) with
      | some (x, es) => some (x, (r, b) :: es)
      | none => none
    | _ => none
  | _ => none
theorem mr_sound {α : Type} {P : Program} {w0 : Ctx} {w : World} {M : Mem} {j : Nat} (h : Sat w0 M w) (s : Sem α) :
    ∀ (v : α) (es : List (Nat × Nat)), mr P M j s = some (v, es) → (∀ p ∈ es, p.1 = p.2) → s.run P w = .ok v w := by
  induction s with
  | pure a => intro v es hr _; simp only [mr, Option.some.injEq, Prod.mk.injEq] at hr; obtain ⟨rfl, rfl⟩ := hr; rfl
  | program k ih => intro v es hr he; exact ih P v es hr he
  | mark m k ih => intro v es hr he; exact ih v es hr he
  | load m a k ih =>
    intro v es hr he
    simp only [mr] at hr
    split at hr
    · rename_i b c T fz hj
      split at hr
      · rename_i hsp
        split at hr
        · rename_i u hu
          split at hr
          · rename_i r es' hk
            simp only [Option.some.injEq, Prod.mk.injEq] at hr
            obtain ⟨rfl, rfl⟩ := hr
            have hab : a.block = b := he (a.block, b) (by simp)
            have hcell : w.cell? a = some u := by
              have := h.block (List.mem_of_getElem? hj)
              simp [World.cell?, hab, this, hsp, hu]
            simp only [Sem.run, hcell]
            exact ih u _ _ hk (fun p hp => he p (by simp [hp]))
          · cases hr
        · cases hr
      · cases hr
    · cases hr
  | shape r k ih =>
    intro v es hr he
    simp only [mr] at hr
    split at hr
    · rename_i b c T fz hj
      split at hr
      · rename_i x es' hk
        simp only [Option.some.injEq, Prod.mk.injEq] at hr
        obtain ⟨rfl, rfl⟩ := hr
        have hab : r = b := he (r, b) (by simp)
        have hsh : w.shape? r = some (T, c.size) := by
          have := h.block (List.mem_of_getElem? hj)
          simp [World.shape?, hab, this]
        simp only [Sem.run, hsh]
        exact ih _ _ _ hk (fun p hp => he p (by simp [hp]))
      · cases hr
    · cases hr
  | _ => intro v es hr _; simp only [mr] at hr; cases hr
def isPlain : Value → Bool
  | .agg _ => false
  | .tuple _ => false
  | _ => true
def mw {α : Type} (P : Program) (j b : Nat) : Sem α → Mem → Option (α × Mem × List (Nat × Nat))
  | .pure a, M => some (a, M, [])
  | .program k, M => mw P j b (k P) M
  | .mark _ k, M => mw P j b k M
  | .load _ a k, M => match M[j]? with
    | some (.inl (b', .cells c _ _)) => match a.spot with
      | none => match c[a.off]? with
        | some v => match mw P j b (k v) M with
          | some (r, M', es) => some (r, M', (a.block, b') :: es)
          | none => none
        | none => none
      | some _ => none
    | _ => none
  | .store _ a v k, M => match isPlain v with
    | false => none
    | true => match M[j]? with
      | some (.inl (b', .cells c T (0, 0))) => match a.spot with
        | none => match c[a.off]? with
          | some _ => match mw P j b k (M.set j (.inl (b', .cells (c.setIfInBounds a.off v) T (0, 0)))) with
            | some (r, M', es) => some (r, M', (a.block, b') :: es)
            | none => none
          | none => none
        | some _ => none
      | _ => none
  | .new o k, M => match mr P M j (k b) with
    | some (r, es) => some (r, .inl (b, o) :: M, es)
    | none => none
  | _, _ => none
theorem run_store_plain {α : Type} (P : Program) (w : World) (m : Mode) (a : Addr) (v u : Value) (k : Sem α) (hp : isPlain v = true) (hc : w.cell? a = some u) (hf : w.frozen? a = false) :
    (Sem.store m a v k).run P w = k.run P (w.setCell a v) := by
  cases v <;> simp [isPlain] at hp <;> simp [Sem.run, hc, hf]
theorem mw_sound {α : Type} {P : Program} {w0 : Ctx} {j b : Nat} (s : Sem α) :
    ∀ (M : Mem) (w : World) (v : α) (M' : Mem) (es : List (Nat × Nat)), Sat w0 M w → b = w.heap.size → mw P j b s M = some (v, M', es) → (∀ p ∈ es, p.1 = p.2) →
      ∃ w', s.run P w = .ok v w' ∧ Sat w0 M' w' := by
  induction s with
  | pure a => intro M w v M' es h _ hr _; simp only [mw, Option.some.injEq, Prod.mk.injEq] at hr; obtain ⟨rfl, rfl, rfl⟩ := hr; exact ⟨w, rfl, h⟩
  | program k ih => intro M w v M' es h hb hr he; exact ih P M w v M' es h hb hr he
  | mark m k ih => intro M w v M' es h hb hr he; exact ih M w v M' es h hb hr he
  | load m a k ih =>
    intro M w v M' es h hbw hr he
    simp only [mw] at hr
    split at hr
    · rename_i b' c T fz hj
      split at hr
      · rename_i hsp
        split at hr
        · rename_i u hu
          split at hr
          · rename_i r M2 es' hk
            simp only [Option.some.injEq, Prod.mk.injEq] at hr
            obtain ⟨rfl, rfl, rfl⟩ := hr
            have hab : a.block = b' := he (a.block, b') (by simp)
            have hcell : w.cell? a = some u := by
              have := h.block (List.mem_of_getElem? hj)
              simp [World.cell?, hab, this, hsp, hu]
            simp only [Sem.run, hcell]
            exact ih u M w _ _ _ h hbw hk (fun p hp => he p (by simp [hp]))
          · cases hr
        · cases hr
      · cases hr
    · cases hr
  | store m a x k ih =>
    intro M w v M' es h hbw hr he
    simp only [mw] at hr
    split at hr
    · cases hr
    · rename_i hpl
      split at hr
      · rename_i b' c T hj
        split at hr
        · rename_i hsp
          split at hr
          · rename_i u hu
            split at hr
            · rename_i r M2 es' hk
              simp only [Option.some.injEq, Prod.mk.injEq] at hr
              obtain ⟨rfl, rfl, rfl⟩ := hr
              have hab : a.block = b' := he (a.block, b') (by simp)
              have hblk := h.block (List.mem_of_getElem? hj)
              have hcell : w.cell? a = some u := by simp [World.cell?, hab, hblk, hsp, hu]
              have hfz : w.frozen? a = false := by simp [World.frozen?, hab, hblk]
              rw [run_store_plain P w m a x u k hpl hcell hfz]
              exact ih _ (w.setCell a x) _ _ _ (h.store hj hab hsp x) (by simpa [World.setCell] using hbw) hk (fun p hp => he p (by simp [hp]))
            · cases hr
          · cases hr
        · cases hr
      · cases hr
  | new o k ih =>
    intro M w v M' es h hbw hr he
    simp only [mw] at hr
    split at hr
    · rename_i r es' hk
      simp only [Option.some.injEq, Prod.mk.injEq] at hr
      obtain ⟨rfl, rfl, rfl⟩ := hr
      subst hbw
      have h2 := h.alloc o
      refine ⟨w.alloc o, ?_, h2⟩
      have h3 : Sat w0 M (w.alloc o) := h2.sub (List.sublist_cons_self _ _)
      exact mr_sound h3 (k w.heap.size) _ _ hk he
    · cases hr
  | _ => intro M w v M' es _ _ hr _; simp only [mw] at hr; cases hr
end Go.Eng
end
section
namespace Go.Eng
def guardF (ops : List Oper) (F : Slots) (o : Oper) : Option Bool :=
  match o.guard with
  | none => some true
  | some (j, want) => match (ops[j]?).bind (·.dst) with
    | none => some false
    | some d => match look d F with
      | some (.bool b) => some (b == want)
      | some _ => some false
      | none => none
theorem guardF_wanted {ops : Array Oper} {F : Slots} {o : Oper} {n : Nat} {a : Act} {g : Bool} (h : Fr n F a) (hg : guardF ops.toList F o = some g) :
    Region.wanted o (yielded ops a.tmps) = g := by
  unfold guardF at hg
  unfold Region.wanted
  split at hg
  · rename_i h0; rw [h0]; simpa using hg
  · rename_i j want h0
    rw [h0]
    simp only
    rw [Array.getElem?_toList] at hg
    split at hg
    · rename_i hd
      simp only [Option.some.injEq] at hg
      subst hg
      simp [yielded, hd]
    · rename_i d hd
      split at hg
      · rename_i b hb
        simp only [Option.some.injEq] at hg
        subst hg
        have := h.has _ _ hb
        simp only [yielded, hd, Option.bind_some, this]
        cases b <;> cases want <;> rfl
      · rename_i v hnb hv
        simp only [Option.some.injEq] at hg
        subst hg
        have := h.has _ _ hv
        simp only [yielded, hd, Option.bind_some, this]
        cases v <;> first | rfl | (exact absurd rfl (hnb _))
      · cases hg
def putD (n : Nat) (F : Slots) (dst : Option Tmp) (v : Value) : Option Slots :=
  match dst with
  | none => some F
  | some d => bif Nat.blt d n then some ((d, v) :: F) else none
theorem putD_fr {n : Nat} {F F' : Slots} {dst : Option Tmp} {v : Value} {a : Act} (h : Fr n F a) (hp : putD n F dst v = some F') : Fr n F' (a.put dst v) := by
  unfold putD at hp
  split at hp
  · simp only [Option.some.injEq] at hp; subst hp; exact h
  · rename_i d
    cases hb : Nat.blt d n with
    | true =>
      rw [hb] at hp
      simp only [cond_true, Option.some.injEq] at hp
      subst hp
      exact h.put (Nat.le_of_ble_eq_true hb) v
    | false => rw [hb] at hp; cases hp
def isSelect : Op → Bool
  | .select _ _ => true
  | _ => false
def opVal (P : Program) (M : Mem) (F : Slots) (j : Nat) (o : Oper) : Option (Value × List (Nat × Nat)) :=
  bif o.op.operands.toList.all (known F) && !isSelect o.op then
    match mr P M j (execOp (rho F) o) with
    | some (.value v, es) => some (v, es)
    | some (.skip, es) => some (undef, es)
    | _ => none
  else none
def isLoad : Op → Bool
  | .load _ _ => true
  | _ => false
def runR (P : Program) (n : Nat) (ops : List Oper) (M : Mem) : List Oper → List Nat → Slots → Option (Slots × List (Nat × Nat))
  | [], _, F => some (F, [])
  | o :: r, hs, F => match guardF ops F o with
    | some true => match opVal P M F (hs.headD 0) o with
      | some (v, es) => match putD n F o.dst v with
        | some F' => match runR P n ops M r (bif isLoad o.op then hs.tail else hs) F' with
          | some (G, es') => some (G, es ++ es')
          | none => none
        | none => none
      | none => none
    | some false => match putD n F o.dst undef with
      | some F' => runR P n ops M r hs F'
      | none => none
    | none => none
theorem execOp_rho {n : Nat} {F : Slots} {a : Act} (h : Fr n F a) (o : Oper) (hk : o.op.operands.toList.all (known F) = true) (hs : isSelect o.op = false) :
    execOp a.eval o = execOp (rho F) o :=
  execOp_congr o (fun cs b e => by rw [e] at hs; cases hs) fun x hx => h.eval x (List.all_eq_true.1 hk x (by simpa using hx))
theorem opVal_sound {P : Program} {w0 : Ctx} {w : World} {n : Nat} {M : Mem} {F : Slots} {j : Nat} {o : Oper} {v : Value} {es : List (Nat × Nat)} {a : Act} (hF : Fr n F a) (hM : Sat w0 M w)
    (h : opVal P M F j o = some (v, es)) (he : ∀ p ∈ es, p.1 = p.2) : (execOp a.eval o).run P w = .ok (.value v) w ∨ ((execOp a.eval o).run P w = .ok .skip w ∧ v = undef) := by
  unfold opVal at h
  cases hb : (o.op.operands.toList.all (known F) && !isSelect o.op) with
  | false => rw [hb] at h; cases h
  | true =>
    rw [hb] at h
    simp only [cond_true] at h
    simp only [Bool.and_eq_true, Bool.not_eq_true'] at hb
    rw [execOp_rho hF o hb.1 hb.2]
    split at h
    · rename_i u es' hm
      simp only [Option.some.injEq, Prod.mk.injEq] at h
      obtain ⟨rfl, rfl⟩ := h
      exact .inl (mr_sound hM _ _ _ hm he)
    · rename_i es' hm
      simp only [Option.some.injEq, Prod.mk.injEq] at h
      obtain ⟨rfl, rfl⟩ := h
      exact .inr ⟨mr_sound hM _ _ _ hm he, rfl⟩
    · cases h
def TL (P : Program) (n : Nat) (w0 : Ctx) (ops : Array Oper) (Q : Exit → Act → World → Prop) (i : Nat) (F : Slots) (M : Mem) : Prop :=
  ∀ a w, Fr n F a → Sat w0 M w → wpList P ops Q (ops.toList.drop i) a w
def TC (P : Program) (n : Nat) (w0 : Ctx) (Q : Exit → Act → World → Prop) (c : Code) (F : Slots) (M : Mem) : Prop :=
  ∀ a w, Fr n F a → Sat w0 M w → c.wp P Q a w
def TE (n : Nat) (w0 : Ctx) (Q : Exit → Act → World → Prop) (e : Exit) (F : Slots) (M : Mem) : Prop :=
  ∀ a w, Fr n F a → Sat w0 M w → Q e a w
def TQ (P : Program) (n : Nat) (w0 : Ctx) (ops : Array Oper) (Q : Act → Prop) (N i : Nat) (F : Slots) (M : Mem) : Prop :=
  ∀ a, Fr n F a → wpQuiet P ops (Sat w0 M) Q ((ops.toList.take N).drop i) a
section
variable {P : Program} {n : Nat} {w0 : Ctx} {ops : Array Oper} {Q : Exit → Act → World → Prop} {F F' : Slots} {M M' : Mem}
theorem wpList_of_wp {o : Oper} {rest : List Oper} {a : Act} {w : World} (hw : Region.wanted o (yielded ops a.tmps) = true) (h : o.wp P a w (wpList P ops Q rest) Q) :
    wpList P ops Q (o :: rest) a w := by
  unfold wpList; rw [if_pos hw]; exact .inl h
theorem runR_wpList : ∀ (l : List Oper) (hs : List Nat) (F G : Slots) (es : List (Nat × Nat)) (rest : List Oper) (a : Act) (w : World), Fr n F a → Sat w0 M w →
    runR P n ops.toList M l hs F = some (G, es) → (∀ p ∈ es, p.1 = p.2) → (∀ a', Fr n G a' → wpList P ops Q rest a' w) → wpList P ops Q (l ++ rest) a w
  | [], hs, F, G, es, rest, a, w, hF, hM, h, he, hk => by
    simp only [runR, Option.some.injEq, Prod.mk.injEq] at h
    obtain ⟨rfl, rfl⟩ := h
    exact hk a hF
  | o :: l, hs, F, G, es, rest, a, w, hF, hM, h, he, hk => by
    simp only [runR] at h
    split at h
    · rename_i hg
      have hw := guardF_wanted hF hg
      split at h
      · rename_i v es1 hv
        split at h
        · rename_i F1 hF1
          split at h
          · rename_i G' es2 hr
            simp only [Option.some.injEq, Prod.mk.injEq] at h
            obtain ⟨rfl, rfl⟩ := h
            have ih := runR_wpList l _ F1 G' es2 rest (a.put o.dst v) w (putD_fr hF hF1) hM hr (fun p hp => he p (by simp [hp])) hk
            refine wpList_of_wp hw ?_
            unfold Oper.wp
            rcases opVal_sound hF hM hv (fun p hp => he p (by simp [hp])) with e | ⟨e, rfl⟩
            · rw [e]; exact ih
            · rw [e]; exact ih
          · cases h
        · cases h
      · cases h
    · rename_i hg
      have hw := guardF_wanted hF hg
      split at h
      · rename_i F1 hF1
        have ih := runR_wpList l _ F1 G es rest (a.put o.dst undef) w (putD_fr hF hF1) hM h he hk
        show wpList P ops Q (o :: (l ++ rest)) a w
        unfold wpList
        rw [hw]
        simpa using ih
      · cases h
    · cases h
def lefts {α : Type} : Option (α × List (Nat × Nat)) → List Nat
  | some (_, es) => es.map Prod.fst
  | none => []
def rights {α : Type} : Option (α × List (Nat × Nat)) → List Nat
  | some (_, es) => es.map Prod.snd
  | none => []
def keptR (F' : Slots) : Option (Slots × List (Nat × Nat)) → Option Slots
  | some (G, _) => pick (F'.map Prod.fst) G
  | none => none
structure OkR (r : Option (Slots × List (Nat × Nat))) (F' : Slots) : Prop where
  fst : keptR F' r = some F' := by kernel_rfl
  snd : lefts r = rights r := by kernel_rfl
theorem eqs_of : ∀ (es : List (Nat × Nat)), es.map Prod.fst = es.map Prod.snd → ∀ p ∈ es, p.1 = p.2
  | [], _, p, hp => by cases hp
  | q :: es, h, p, hp => by
    simp only [List.map_cons, List.cons.injEq] at h
    rcases List.mem_cons.1 hp with rfl | hp
    · exact h.1
    · exact eqs_of es h.2 p hp
theorem okR_spec {r : Option (Slots × List (Nat × Nat))} (h : OkR r F') : ∃ G es, r = some (G, es) ∧ (∀ p ∈ es, p.1 = p.2) ∧ ∀ t v, look t F' = some v → look t G = some v := by
  obtain ⟨h1, h2⟩ := h
  cases r with
  | none => cases h1
  | some x => exact ⟨x.1, x.2, rfl, eqs_of _ h2, pick_look _ _ _ h1⟩
theorem split_at (l : List Oper) {i k : Nat} (h : i ≤ k) : l.drop i = (l.drop i).take (k - i) ++ l.drop k := by
  have : l.drop k = (l.drop i).drop (k - i) := by rw [List.drop_drop]; congr 1; omega
  rw [this, List.take_append_drop]
theorem TL.run (k : Nat) (hs : List Nat) (F' : Slots) {i : Nat} (hik : Nat.ble i k = true) (hr : OkR (runR P n ops.toList M ((ops.toList.drop i).take (k - i)) hs F) F')
    (h : TL P n w0 ops Q k F' M) : TL P n w0 ops Q i F M := by
  intro a w hF hM
  obtain ⟨G, es, hG, he, hsub⟩ := okR_spec hr
  rw [split_at ops.toList (Nat.le_of_ble_eq_true hik)]
  exact runR_wpList _ _ _ _ _ _ a w hF hM hG he (fun a' ha' => h a' w (ha'.sub hsub) hM)
theorem TL.split (t : Nat) (b : Bool) {i : Nat} (ht : look t F = some (.bool b)) (h1 : b = true → TL P n w0 ops Q i ((t, .bool true) :: F) M)
    (h2 : b = false → TL P n w0 ops Q i ((t, .bool false) :: F) M) : TL P n w0 ops Q i F M := by
  have key : ∀ (c : Bool), b = c → ∀ a, Fr n F a → Fr n ((t, .bool c) :: F) a := by
    rintro c rfl a hF
    refine hF.sub fun s v hv => ?_
    by_cases e : t = s
    · subst e; rw [look_cons_self] at hv; rw [ht]; exact hv
    · rw [look_cons_ne _ _ e] at hv; exact hv
  intro a w hF hM
  cases hb : b with
  | true => exact h1 hb a w (key true hb a hF) hM
  | false => exact h2 hb a w (key false hb a hF) hM
def opAt (ops : List Oper) (F : Slots) (i : Nat) : Option Oper :=
  match ops[i]? with
  | some o => match guardF ops F o with
    | some true => bif o.op.operands.toList.all (known F) && !isSelect o.op then some o else none
    | _ => none
  | none => none
theorem opAt_spec {i : Nat} {o : Oper} {a : Act} (hF : Fr n F a) (h : opAt ops.toList F i = some o) :
    ops.toList.drop i = o :: ops.toList.drop (i + 1) ∧ Region.wanted o (yielded ops a.tmps) = true ∧ execOp a.eval o = execOp (rho F) o := by
  unfold opAt at h
  split at h
  · rename_i o' ho
    split at h
    · rename_i hg
      cases hb : (o'.op.operands.toList.all (known F) && !isSelect o'.op) with
      | false => rw [hb] at h; cases h
      | true =>
        rw [hb] at h
        simp only [cond_true, Option.some.injEq] at h
        subst h
        simp only [Bool.and_eq_true, Bool.not_eq_true'] at hb
        refine ⟨?_, guardF_wanted hF hg, execOp_rho hF _ hb.1 hb.2⟩
        obtain ⟨hlt, hget⟩ := List.getElem?_eq_some_iff.1 ho
        rw [List.drop_eq_getElem_cons hlt, hget]
    · cases h
  · cases h
def semAt (ops : List Oper) (F : Slots) (i : Nat) : Option (Sem Next × Option Tmp) :=
  match opAt ops F i with
  | some o => some (execOp (rho F) o, o.dst)
  | none => none
theorem semAt_spec {i : Nat} {s : Sem Next} {d : Option Tmp} {a : Act} (hF : Fr n F a) (h : semAt ops.toList F i = some (s, d)) :
    ∃ o, ops.toList.drop i = o :: ops.toList.drop (i + 1) ∧ Region.wanted o (yielded ops a.tmps) = true ∧ execOp a.eval o = s ∧ o.dst = d := by
  unfold semAt at h
  split at h
  · rename_i o ho
    simp only [Option.some.injEq, Prod.mk.injEq] at h
    obtain ⟨h1, h2, h3⟩ := opAt_spec hF ho
    exact ⟨o, h1, h2, h3.trans h.1, h.2⟩
  · cases h
def wrAt (P : Program) (n : Nat) (ops : List Oper) (F : Slots) (M : Mem) (j b i : Nat) : Option ((Slots × Mem) × List (Nat × Nat)) :=
  match semAt ops F i with
  | some (s, d) => match mw P j b s M with
    | some (.value v, m, es) => match putD n F d v with | some G => some ((G, m), es) | none => none
    | some (.skip, m, es) => match putD n F d undef with | some G => some ((G, m), es) | none => none
    | _ => none
  | none => none
def Ret (w : World) (v : Value) : Ending → World → Prop := fun e w' => e = .returned v ∧ Below w.heap.size w w'
def RetM {Γ : Type} (w0 : Ctx) (v : Γ → Value) (M : Γ → Mem) : Ending → World → Prop := fun e w' => ∃ g, e = .returned (v g) ∧ Sat w0 (M g) w'
def feet (M : Mem) : Nat → Prop := fun b => ∃ e ∈ M, footE e b
theorem Sat.call {w0 : Ctx} {w w' : World} {Mp Mr Mn : Mem} (h : Sat w0 (Mp ++ Mr) w) (h' : Sat ⟨w, feet Mp⟩ Mn w') : Sat w0 (Mn ++ Mr) w' := by
  have hp : ∀ e ∈ Mp, holdsE e w ∧ ∀ b, footE e b → w0.D b ∨ w0.w0.heap.size ≤ b := fun e he => h.own e (List.mem_append_left _ he)
  have hr : ∀ e ∈ Mr, holdsE e w ∧ ∀ b, footE e b → w0.D b ∨ w0.w0.heap.size ≤ b := fun e he => h.own e (List.mem_append_right _ he)
  have hap := List.pairwise_append.1 h.apart
  have far : ∀ f ∈ Mr, ∀ b, footE f b → ¬ feet Mp b := fun f hf b hb ⟨e, he, hb2⟩ => hap.2.2 e he f hf b hb2 hb
  refine ⟨⟨h'.chg.os.trans h.chg.os, h'.chg.tape.trans h.chg.tape, h'.chg.output.trans h.chg.output, Nat.le_trans h.chg.size h'.chg.size, fun k hk hd => ?_, Nat.le_trans h.chg.drawn h'.chg.drawn⟩, fun e he => ?_, ?_⟩
  · refine (h'.chg.block k (Nat.lt_of_lt_of_le hk h.chg.size) ?_).trans (h.chg.block k hk hd)
    rintro ⟨e, he, hf⟩
    rcases (hp e he).2 k hf with h1 | h1
    · exact hd h1
    · omega
  · rcases List.mem_append.1 he with he | he
    · refine ⟨(h'.own e he).1, fun b hb => ?_⟩
      rcases (h'.own e he).2 b hb with ⟨f, hf, hb2⟩ | h1
      · exact (hp f hf).2 b hb2
      · exact .inr (Nat.le_trans h.chg.size h1)
    · exact ⟨keptE (hr e he).1 fun b hb => h'.chg.block b (ltE (hr e he).1 b hb) (far e he b hb), (hr e he).2⟩
  · refine List.pairwise_append.2 ⟨h'.apart, hap.2.1, fun e he f hf b hb1 hb2 => ?_⟩
    rcases (h'.own e he).2 b hb1 with h1 | h1
    · exact far f hf b hb2 h1
    · have h2 : w.heap.size ≤ b := h1
      have := ltE (hr f hf).1 b hb2
      omega
def callAt (P : Program) (ops : List Oper) (F : Slots) (i : Nat) : Option (FuncId × Array Value × Option Tmp) :=
  match semAt ops F i with
  | some (s, d) => match mr P [] 0 s with
    | some (.enter f args, []) => some (f, args, d)
    | _ => none
  | none => none
theorem callAt_spec {i : Nat} {f : FuncId} {args : Array Value} {d : Option Tmp} {a : Act} (hF : Fr n F a) (h : callAt P ops.toList F i = some (f, args, d)) :
    ∃ o, ops.toList.drop i = o :: ops.toList.drop (i + 1) ∧ Region.wanted o (yielded ops a.tmps) = true ∧ (∀ w, (execOp a.eval o).run P w = .ok (.enter f args) w) ∧ o.dst = d := by
  unfold callAt at h
  split at h
  · rename_i s d' hs
    split at h
    · rename_i f' args' hm
      simp only [Option.some.injEq, Prod.mk.injEq] at h
      obtain ⟨rfl, rfl, rfl⟩ := h
      obtain ⟨o, h1, h2, h3, h4⟩ := semAt_spec hF hs
      exact ⟨o, h1, h2, fun w => by rw [h3]; exact mr_sound (Sat.start w) s _ _ hm (by simp), h4⟩
    · cases h
  · cases h
def pickD (F' : Slots) (G : Option Slots) : Option Slots :=
  match G with | some g => pick (F'.map Prod.fst) g | none => none
theorem pickD_spec {d : Option Tmp} {v : Value} {a : Act} (hF : Fr n F a) (h : pickD F' (putD n F d v) = some F') : Fr n F' (a.put d v) := by
  unfold pickD at h
  split at h
  · rename_i g hg
    exact (putD_fr hF hg).sub (pick_look _ _ _ h)
  · cases h
theorem TL.call (d : Option Tmp) (F' : Slots) {i : Nat} {f : FuncId} {args : Array Value} {v : Value} (hc : ∀ w, Sat w0 M w → Calls P f args w (Ret w v))
    (hs : callAt P ops.toList F i = some (f, args, d)) (hp : pickD F' (putD n F d v) = some F') (h : TL P n w0 ops Q (i + 1) F' M) : TL P n w0 ops Q i F M := by
  intro a w hF hM
  obtain ⟨o, h1, h2, h3, h4⟩ := callAt_spec hF hs
  rw [h1]
  refine wpList_of_wp h2 ?_
  unfold Oper.wp
  rw [h3 w]
  refine (hc w hM).mono fun e w' he => ?_
  obtain ⟨rfl, hb⟩ := he
  subst h4
  exact h _ w' (pickD_spec hF hp) (hM.later hb)
theorem TL.callM {Γ : Type} (v : Γ → Value) (Mn : Γ → Mem) (Mp Mr : Mem) (d : Option Tmp) (F' : Γ → Slots) {i : Nat} {f : FuncId} {args : Array Value}
    (hc : ∀ w, Sat w0 (Mp ++ Mr) w → Calls P f args w (RetM ⟨w, feet Mp⟩ v Mn))
    (hs : callAt P ops.toList F i = some (f, args, d)) (hp : ∀ g, pickD (F' g) (putD n F d (v g)) = some (F' g)) (h : ∀ g, TL P n w0 ops Q (i + 1) (F' g) (Mn g ++ Mr)) : TL P n w0 ops Q i F (Mp ++ Mr) := by
  intro a w hF hM
  obtain ⟨o, h1, h2, h3, h4⟩ := callAt_spec hF hs
  rw [h1]
  refine wpList_of_wp h2 ?_
  unfold Oper.wp
  rw [h3 w]
  refine (hc w hM).mono fun e w' he => ?_
  obtain ⟨g, rfl, hb⟩ := he
  subst h4
  exact h g _ w' (pickD_spec hF (hp g)) (hM.call hb)
theorem TL.callN {Γ : Type} (v : Γ → Value) (Mn : Γ → Mem) (M2 : Γ → Mem) (he : ∀ g, Mn g ++ M = M2 g) (d : Option Tmp) (F' : Γ → Slots) {i : Nat} {f : FuncId} {args : Array Value}
    (hc : ∀ w, Sat w0 M w → Calls P f args w (RetM (cx w) v Mn))
    (hs : callAt P ops.toList F i = some (f, args, d)) (hp : ∀ g, pickD (F' g) (putD n F d (v g)) = some (F' g)) (h : ∀ g, TL P n w0 ops Q (i + 1) (F' g) (M2 g)) : TL P n w0 ops Q i F M := by
  refine TL.callM (Mp := []) (Mr := M) v Mn d F' (fun w hM => ?_) hs hp (fun g => by rw [he g]; exact h g)
  refine (hc w hM).mono fun e w' he => ?_
  obtain ⟨g, h1, h2⟩ := he
  refine ⟨g, h1, ⟨h2.chg.os, h2.chg.tape, h2.chg.output, h2.chg.size, fun k hk _ => h2.chg.block k hk (fun h => h), h2.chg.drawn⟩, fun e he => ⟨(h2.own e he).1, fun b hb => ?_⟩, h2.apart⟩
  rcases (h2.own e he).2 b hb with h3 | h3
  · exact h3.elim
  · exact .inr h3
theorem TL.opM {Γ : Type} (s : Sem Next) (d : Option Tmp) (v : Γ → Value) (M' : Γ → Mem) (F' : Γ → Slots) {i : Nat} (hv : ∀ w, Sat w0 M w → ∃ g w', s.run P w = .ok (.value (v g)) w' ∧ Sat w0 (M' g) w')
    (hs : semAt ops.toList F i = some (s, d)) (hp : ∀ g, pickD (F' g) (putD n F d (v g)) = some (F' g)) (h : ∀ g, TL P n w0 ops Q (i + 1) (F' g) (M' g)) : TL P n w0 ops Q i F M := by
  intro a w hF hM
  obtain ⟨o, h1, h2, h3, h4⟩ := semAt_spec hF hs
  rw [h1]
  refine wpList_of_wp h2 ?_
  unfold Oper.wp
  obtain ⟨g, w', hr, hM'⟩ := hv w hM
  rw [h3, hr]
  subst h4
  exact h g _ w' (pickD_spec hF (hp g)) hM'
theorem TL.skipM {Γ : Type} (s : Sem Next) (d : Option Tmp) (M' : Γ → Mem) (F' : Γ → Slots) {i : Nat} (hv : ∀ w, Sat w0 M w → ∃ g w', s.run P w = .ok .skip w' ∧ Sat w0 (M' g) w')
    (hs : semAt ops.toList F i = some (s, d)) (hp : ∀ g, pickD (F' g) (putD n F d undef) = some (F' g)) (h : ∀ g, TL P n w0 ops Q (i + 1) (F' g) (M' g)) : TL P n w0 ops Q i F M := by
  intro a w hF hM
  obtain ⟨o, h1, h2, h3, h4⟩ := semAt_spec hF hs
  rw [h1]
  refine wpList_of_wp h2 ?_
  unfold Oper.wp
  obtain ⟨g, w', hr, hM'⟩ := hv w hM
  rw [h3, hr]
  subst h4
  exact h g _ w' (pickD_spec hF (hp g)) hM'
theorem TL.conv (M' : Mem) (hs : ∀ w, Sat w0 M w → Sat w0 M' w) {i : Nat} (h : TL P n w0 ops Q i F M') : TL P n w0 ops Q i F M :=
  fun a w hF hM => h a w hF (hs w hM)
theorem TL.val (s : Sem Next) (d : Option Tmp) (v : Value) (F' : Slots) {i : Nat} (hv : ∀ w, Sat w0 M w → s.run P w = .ok (.value v) w) (hs : semAt ops.toList F i = some (s, d))
    (hp : pickD F' (putD n F d v) = some F') (h : TL P n w0 ops Q (i + 1) F' M) : TL P n w0 ops Q i F M := by
  intro a w hF hM
  obtain ⟨o, h1, h2, h3, h4⟩ := semAt_spec hF hs
  rw [h1]
  refine wpList_of_wp h2 ?_
  unfold Oper.wp
  rw [h3, hv w hM]
  subst h4
  exact h _ w (pickD_spec hF hp) hM
theorem TL.forget (M' : Mem) (hs : M'.Sublist M) {i : Nat} (h : TL P n w0 ops Q i F M') : TL P n w0 ops Q i F M :=
  fun a w hF hM => h a w hF (hM.sub hs)
theorem TL.done {i : Nat} (hi : Nat.ble ops.toList.length i = true) (h : TE n w0 Q .normal F M) : TL P n w0 ops Q i F M := by
  intro a w hF hM
  rw [List.drop_eq_nil_of_le (Nat.le_of_ble_eq_true hi)]
  exact h a w hF hM
theorem TE.next {y : Code} (h : TC P n w0 Q y F M) : TE n w0 (Exit.then (y.wp P Q) Q) .normal F M := h
theorem TL.next {y : Code} {i : Nat} (hi : Nat.ble ops.toList.length i = true) (h : TC P n w0 Q y F M) : TL P n w0 ops (Exit.then (y.wp P Q) Q) i F M := TL.done hi h
theorem TC.seq {x y : Code} (h : TC P n w0 (Exit.then (y.wp P Q) Q) x F M) : TC P n w0 Q (.seq x y) F M := fun a w hF hM => wp_seq (h a w hF hM)
theorem TC.region {id : Nat} (h : TL P n w0 ops Q 0 F M) : TC P n w0 Q (.region id ops false) F M := fun a w hF hM => wp_region_list (by simpa using h a w hF hM)
theorem TC.skip (h : TE n w0 Q .normal F M) : TC P n w0 Q .skip F M := fun a w hF hM => wp_skip (h a w hF hM)
theorem TC.ret (h : TE n w0 Q .ret F M) : TC P n w0 Q .ret F M := fun a w hF hM => wp_ret (h a w hF hM)
theorem TC.exit {id : Nat} (h : TE n w0 Q (.exit id) F M) : TC P n w0 Q (.exit id) F M := fun a w hF hM => wp_exit (h a w hF hM)
theorem TC.block {id : Nat} {c : Code} (h : TC P n w0 (Exit.inBlock id Q) c F M) : TC P n w0 Q (.block id c) F M := fun a w hF hM => wp_block (h a w hF hM)
theorem TC.cond {c : Operand} {x y : Code} (b : Bool) (hk : known F c = true) (hc : rho F c = .bool b) (h1 : b = true → TC P n w0 Q x F M) (h2 : b = false → TC P n w0 Q y F M) :
    TC P n w0 Q (.cond c x y) F M := fun a w hF hM =>
  wp_cond_split ((hF.eval c hk).trans hc) (fun e => h1 e a w hF hM) (fun e => h2 e a w hF hM)
theorem TC.condT {c : Operand} {x y : Code} (hk : known F c = true) (hc : rho F c = .bool true) (h : TC P n w0 Q x F M) : TC P n w0 Q (.cond c x y) F M :=
  fun a w hF hM => wp_cond_true ((hF.eval c hk).trans hc) (h a w hF hM)
theorem TC.condF {c : Operand} {x y : Code} (hk : known F c = true) (hc : rho F c = .bool false) (h : TC P n w0 Q y F M) : TC P n w0 Q (.cond c x y) F M :=
  fun a w hF hM => wp_cond_false ((hF.eval c hk).trans hc) (h a w hF hM)
theorem TL.know {p : Prop} (hs : ∀ w, Sat w0 M w → p) {i : Nat} (h : p → TL P n w0 ops Q i F M) : TL P n w0 ops Q i F M := fun a w hF hM => h (hs w hM) a w hF hM
theorem TC.know {p : Prop} (hs : ∀ w, Sat w0 M w → p) {c : Code} (h : p → TC P n w0 Q c F M) : TC P n w0 Q c F M := fun a w hF hM => h (hs w hM) a w hF hM
theorem TE.know {p : Prop} (hs : ∀ w, Sat w0 M w → p) {e : Exit} (h : p → TE n w0 Q e F M) : TE n w0 Q e F M := fun a w hF hM => h (hs w hM) a w hF hM
theorem TC.conv (M' : Mem) (hs : ∀ w, Sat w0 M w → Sat w0 M' w) {c : Code} (h : TC P n w0 Q c F M') : TC P n w0 Q c F M := fun a w hF hM => h a w hF (hs w hM)
theorem TE.conv (M' : Mem) (hs : ∀ w, Sat w0 M w → Sat w0 M' w) {e : Exit} (h : TE n w0 Q e F M') : TE n w0 Q e F M := fun a w hF hM => h a w hF (hs w hM)
theorem TC.forget (M' : Mem) (hs : M'.Sublist M) {c : Code} (h : TC P n w0 Q c F M') : TC P n w0 Q c F M := fun a w hF hM => h a w hF (hM.sub hs)
theorem TC.weak (F' : Slots) {c : Code} (hp : pick (F'.map Prod.fst) F = some F') (h : TC P n w0 Q c F' M) : TC P n w0 Q c F M := fun a w hF hM => h a w (hF.sub (pick_look _ _ _ hp)) hM
theorem TE.ret_then {K : Act → World → Prop} (h : TE n w0 Q .ret F M) : TE n w0 (Exit.then K Q) .ret F M := h
theorem TE.exit_then {id : Nat} {K : Act → World → Prop} (h : TE n w0 Q (.exit id) F M) : TE n w0 (Exit.then K Q) (.exit id) F M := h
theorem TE.exit_same {id : Nat} (h : TE n w0 Q .normal F M) : TE n w0 (Exit.inBlock id Q) (.exit id) F M := fun a w hF hM => by simp only [Exit.inBlock, if_true]; exact h a w hF hM
theorem TE.exit_other {id id' : Nat} (hne : Nat.beq id' id = false) (h : TE n w0 Q (.exit id') F M) : TE n w0 (Exit.inBlock id Q) (.exit id') F M := fun a w hF hM => by
  have : ¬ id' = id := fun e => by subst e; simp at hne
  simp only [Exit.inBlock, if_neg this]; exact h a w hF hM
theorem TE.normal_block {id : Nat} (h : TE n w0 Q .normal F M) : TE n w0 (Exit.inBlock id Q) .normal F M := h
theorem TC.loop {X : Type} (Fs : X → Slots) (Ms : X → Mem) (m : X → Nat) (I : X → Prop) {c : Code}
    (round : ∀ x, I x → TC P n w0 (Exit.then (fun a w => ∃ y, I y ∧ m y < m x ∧ Fr n (Fs y) a ∧ Sat w0 (Ms y) w) Q) c (Fs x) (Ms x)) :
    ∀ x, I x → TC P n w0 Q (.loop c) (Fs x) (Ms x) := by
  intro x hx a w hF hM
  refine wp_loop_rounds (m x + 1) ?_
  have key : ∀ (k : Nat) (x : X), m x ≤ k → I x → ∀ a w, Fr n (Fs x) a → Sat w0 (Ms x) w → Code.rounds P c Q (k + 1) a w := by
    intro k
    induction k with
    | zero =>
      intro x hk hx a w hF hM
      rw [rounds_succ]
      refine wp_mono (round x hx a w hF hM) fun e a' w' h => ?_
      cases e with
      | normal => obtain ⟨y, _, hlt, _⟩ := h; omega
      | _ => exact h
    | succ k ih =>
      intro x hk hx a w hF hM
      rw [rounds_succ]
      refine wp_mono (round x hx a w hF hM) fun e a' w' h => ?_
      cases e with
      | normal => obtain ⟨y, hy, hlt, hFy, hMy⟩ := h; exact ih y (by omega) hy a' w' hFy hMy
      | _ => exact h
  exact key (m x) x (Nat.le_refl _) hx a w hF hM
theorem TE.again {X : Type} {Fs : X → Slots} {Ms : X → Mem} {m : X → Nat} {I : X → Prop} {x : X} (y : X) (hI : I y) (hm : m y < m x)
    (hp : pick ((Fs y).map Prod.fst) F = some (Fs y)) (hs : (Ms y).Sublist M) :
    TE n w0 (Exit.then (fun a w => ∃ y, I y ∧ m y < m x ∧ Fr n (Fs y) a ∧ Sat w0 (Ms y) w) Q) .normal F M :=
  fun _ _ hF hM => ⟨y, hI, hm, hF.sub (pick_look _ _ _ hp), hM.sub hs⟩
def argSlots : Nat → List Value → Slots
  | _, [] => []
  | k, v :: vs => (k, v) :: argSlots (k + 1) vs
theorem argSlots_look : ∀ (vs : List Value) (k t : Nat) (v : Value), look t (argSlots k vs) = some v → ∃ i, t = k + i ∧ vs[i]? = some v
  | [], _, _, _, h => by cases h
  | u :: vs, k, t, v, h => by
    by_cases e : k = t
    · subst e
      simp only [argSlots, look_cons_self, Option.some.injEq] at h
      exact ⟨0, rfl, by simp [h]⟩
    · simp only [argSlots, look_cons_ne _ _ e] at h
      obtain ⟨i, hi, hv⟩ := argSlots_look vs (k + 1) t v h
      exact ⟨i + 1, by omega, by simpa using hv⟩
theorem calls_introM {f : FuncId} {fn : Func} {c : Code} {vs : List Value} {R : Ending → World → Prop} (hM : Sat w0 M w0.w0) (hf : P.funcs[f]? = some fn) (hb : fn.body = some c) (hn : fn.ntmps = n)
    (hl : Nat.ble vs.length n = true) (h : TC P n w0 (bodyPost P fn R) c (argSlots 0 vs) M) : Calls P f vs.toArray w0.w0 R := by
  refine calls_of_wp hf hb (h _ _ ⟨?_, rfl, fun t v ht => ?_⟩ hM)
  · have := Nat.le_of_ble_eq_true hl
    simp [hn]; omega
  · obtain ⟨i, hi, hv⟩ := argSlots_look vs 0 t v ht
    have hlt : i < vs.length := (List.getElem?_eq_some_iff.1 hv).1
    have : t = i := by omega
    subst this
    simp only
    rw [Array.getElem?_append_left (by simpa using hlt)]
    simpa using hv
theorem calls_intro {w : World} {f : FuncId} {fn : Func} {c : Code} {vs : List Value} {R : Ending → World → Prop} (hf : P.funcs[f]? = some fn) (hb : fn.body = some c) (hn : fn.ntmps = n)
    (hl : Nat.ble vs.length n = true) (h : TC P n (cx w) (bodyPost P fn R) c (argSlots 0 vs) []) : Calls P f vs.toArray w R := calls_introM (w0 := cx w) (Sat.start w) hf hb hn hl h
end
end Go.Eng
end
section
namespace Go.Eng
def resF (P : Program) (M : Mem) (F : Slots) : List ResultVar → List Nat → Option (List Value × List (Nat × Nat))
  | [], _ => some ([], [])
  | .tmp t :: r, hs => match look t F with
    | some v => match resF P M F r hs with
      | some (vs, es) => some (v :: vs, es)
      | none => none
    | none => none
  | .cell c T :: r, hs => match look c F with
    | some (.pointer (some a)) => match mr P M (hs.headD 0) (loadVar T a) with
      | some (v, es) => match resF P M F r hs.tail with
        | some (vs, es') => some (v :: vs, es ++ es')
        | none => none
      | none => none
    | _ => none
def packR : List Value → Value
  | [v] => v
  | vs => .tuple vs.toArray
theorem results_run {P : Program} {w0 : Ctx} {w : World} {n : Nat} {F : Slots} {M : Mem} {a : Act} {fn : Func} (hF : Fr n F a) (hM : Sat w0 M w) {hs : List Nat} {vs : List Value} {es : List (Nat × Nat)}
    (h : resF P M F fn.results.toList hs = some (vs, es)) (he : ∀ p ∈ es, p.1 = p.2) : (results fn a.tmps).run P w = .ok (packR vs) w := by
  unfold results
  rw [Array.mapM_eq_mapM_toList]
  generalize fn.results.toList = rs at h
  have key : ∀ (g : ResultVar → Sem Value), (∀ t, g (.tmp t) = pure (a.tmps.getD t undef)) → (∀ b t, g (.cell b t) = (do loadVar t (← asAddr (a.tmps.getD b undef)))) → ∀ (rs : List ResultVar) (hs : List Nat) (vs : List Value) (es : List (Nat × Nat)), resF P M F rs hs = some (vs, es) → (∀ p ∈ es, p.1 = p.2) →
      (List.mapM g rs).run P w = Result.ok vs w := by
    intro g g1 g2 rs
    induction rs with
    | nil => intro hs vs es h he; simp only [resF, Option.some.injEq, Prod.mk.injEq] at h; obtain ⟨rfl, rfl⟩ := h; simp
    | cons x rs ih =>
      intro hs vs es h he
      cases x with
      | tmp t =>
        simp only [resF] at h
        split at h
        · rename_i v hv
          split at h
          · rename_i vs' es' hr
            simp only [Option.some.injEq, Prod.mk.injEq] at h
            obtain ⟨rfl, rfl⟩ := h
            have h1 := ih hs vs' es' hr he
            have h2 : a.tmps.getD t undef = v := by rw [Array.getD_eq_getD_getElem?, hF.has t v hv]; rfl
            simp only [List.mapM_cons, Sem.run_bind, Sem.run_pure, g1, h1, h2, Result.andThen_ok]
          · cases h
        · cases h
      | cell b T =>
        simp only [resF] at h
        split at h
        · rename_i ad hv
          split at h
          · rename_i v es1 hm
            split at h
            · rename_i vs' es' hr
              simp only [Option.some.injEq, Prod.mk.injEq] at h
              obtain ⟨rfl, rfl⟩ := h
              have h1 := ih hs.tail vs' es' hr (fun p hp => he p (by simp [hp]))
              have h2 : asAddr (a.tmps.getD b undef) = pure ad := by rw [Array.getD_eq_getD_getElem?, hF.has b _ hv]; rfl
              have h3 := mr_sound hM _ _ _ hm (fun p hp => he p (by simp [hp]))
              simp only [List.mapM_cons, Sem.run_bind, Sem.run_pure, g2, h1, h2, Result.andThen_ok, h3]
            · cases h
          · cases h
        · cases h
  simp only [Sem.run_bind, Sem.run_map, Sem.run_pure]
  rw [key _ (fun _ => rfl) (fun _ _ => rfl) rs hs vs es h he]
  cases vs with
  | nil => simp [packR]
  | cons v vs => cases vs <;> simp [packR]
def valV : Option (List Value × List (Nat × Nat)) → Option Value
  | some (vs, _) => some (packR vs)
  | none => none
structure OkV (r : Option (List Value × List (Nat × Nat))) (v : Value) : Prop where
  fst : valV r = some v := by kernel_rfl
  snd : lefts r = rights r := by kernel_rfl
section
variable {P : Program} {n : Nat} {w0 : Ctx} {ops : Array Oper} {Q : Exit → Act → World → Prop} {F F' : Slots} {M M' : Mem}
theorem TE.back {fn : Func} {R : Ending → World → Prop} (hs : List Nat) (v : Value) (h : OkV (resF P M F fn.results.toList hs) v) (hR : ∀ w, Sat w0 M w → R (.returned v) w) :
    TE n w0 (bodyPost P fn R) .ret F M := by
  intro a w hF hM
  obtain ⟨h1, h2⟩ := h
  cases hr : resF P M F fn.results.toList hs with
  | none => rw [hr] at h1; cases h1
  | some x =>
    rw [hr] at h1 h2
    simp only [valV, Option.some.injEq] at h1
    subst h1
    exact ⟨hF.defers, _, results_run hF hM hr (eqs_of _ h2), hR w hM⟩
theorem TE.retM {Γ : Type} {fn : Func} {v0 : Γ → Value} {M0 : Γ → Mem} {x : Exit} (hx : x = .ret ∨ x = .normal) (g : Γ) (hs : List Nat) (v : Value) (h : OkV (resF P M F fn.results.toList hs) v) (hv : v = v0 g)
    (hM : ∀ w, Sat w0 M w → Sat w0 (M0 g) w) : TE n w0 (bodyPost P fn (RetM w0 v0 M0)) x F M := by
  have := TE.back (n := n) (w0 := w0) (R := RetM w0 v0 M0) hs v h fun w hw => ⟨g, congrArg _ hv, hM w hw⟩
  rcases hx with rfl | rfl
  · exact this
  · exact this
theorem TE.ret {w : World} {fn : Func} {v0 : Value} (hs : List Nat) (v : Value) (h : OkV (resF P M F fn.results.toList hs) v) (hv : v = v0) : TE n (cx w) (bodyPost P fn (Ret w v0)) .ret F M :=
  TE.back hs v h fun _ hM => ⟨congrArg _ hv, hM.below⟩
theorem runR_wpQuiet {Q : Act → Prop} : ∀ (l : List Oper) (hs : List Nat) (F G : Slots) (es : List (Nat × Nat)) (rest : List Oper) (a : Act), Fr n F a →
    runR P n ops.toList M l hs F = some (G, es) → (∀ p ∈ es, p.1 = p.2) → (∀ a', Fr n G a' → wpQuiet P ops (Sat w0 M) Q rest a') → wpQuiet P ops (Sat w0 M) Q (l ++ rest) a
  | [], hs, F, G, es, rest, a, hF, h, he, hk => by
    simp only [runR, Option.some.injEq, Prod.mk.injEq] at h
    obtain ⟨rfl, rfl⟩ := h
    exact hk a hF
  | o :: l, hs, F, G, es, rest, a, hF, h, he, hk => by
    simp only [runR] at h
    split at h
    · rename_i hg
      have hw := guardF_wanted hF hg
      split at h
      · rename_i v es1 hv
        split at h
        · rename_i F1 hF1
          split at h
          · rename_i G' es2 hr
            simp only [Option.some.injEq, Prod.mk.injEq] at h
            obtain ⟨rfl, rfl⟩ := h
            have ih := runR_wpQuiet l _ F1 G' es2 rest (a.put o.dst v) (putD_fr hF hF1) hr (fun p hp => he p (by simp [hp])) hk
            show wpQuiet P ops (Sat w0 M) Q (o :: (l ++ rest)) a
            unfold wpQuiet
            rw [if_pos hw]
            refine ⟨v, fun w hM => ?_, ih⟩
            unfold Oper.quietAt
            rcases opVal_sound hF hM hv (fun p hp => he p (by simp [hp])) with e | ⟨e, rfl⟩
            · rw [e]; exact ⟨rfl, rfl⟩
            · rw [e]; exact ⟨rfl, rfl⟩
          · cases h
        · cases h
      · cases h
    · rename_i hg
      have hw := guardF_wanted hF hg
      split at h
      · rename_i F1 hF1
        have ih := runR_wpQuiet l _ F1 G es rest (a.put o.dst undef) (putD_fr hF hF1) h he hk
        show wpQuiet P ops (Sat w0 M) Q (o :: (l ++ rest)) a
        unfold wpQuiet
        rw [hw]
        simpa using ih
      · cases h
    · cases h
section
variable {Q : Act → Prop} {N : Nat}
theorem TQ.run (k : Nat) (hs : List Nat) (F' : Slots) {i : Nat} (hik : Nat.ble i k = true) (hr : OkR (runR P n ops.toList M (((ops.toList.take N).drop i).take (k - i)) hs F) F')
    (h : TQ P n w0 ops Q N k F' M) : TQ P n w0 ops Q N i F M := by
  intro a hF
  obtain ⟨G, es, hG, he, hsub⟩ := okR_spec hr
  rw [split_at (ops.toList.take N) (Nat.le_of_ble_eq_true hik)]
  exact runR_wpQuiet _ _ _ _ _ _ a hF hG he (fun a' ha' => h a' (ha'.sub hsub))
theorem TQ.split (t : Nat) (b : Bool) {i : Nat} (ht : look t F = some (.bool b)) (h1 : b = true → TQ P n w0 ops Q N i ((t, .bool true) :: F) M)
    (h2 : b = false → TQ P n w0 ops Q N i ((t, .bool false) :: F) M) : TQ P n w0 ops Q N i F M := by
  have key : ∀ (c : Bool), b = c → ∀ a, Fr n F a → Fr n ((t, .bool c) :: F) a := by
    rintro c rfl a hF
    refine hF.sub fun s v hv => ?_
    by_cases e : t = s
    · subst e; rw [look_cons_self] at hv; rw [ht]; exact hv
    · rw [look_cons_ne _ _ e] at hv; exact hv
  intro a hF
  cases hb : b with
  | true => exact h1 hb a (key true hb a hF)
  | false => exact h2 hb a (key false hb a hF)
theorem take_at {i : Nat} {o : Oper} {r : List Oper} (hi : Nat.blt i N = true) (h : ops.toList.drop i = o :: r) : ∃ r', (ops.toList.take N).drop i = o :: r' ∧ r' = (ops.toList.take N).drop (i + 1) := by
  have hi' : i < N := Nat.le_of_ble_eq_true hi
  refine ⟨_, ?_, rfl⟩
  rw [List.drop_take, List.drop_take, h, show N - i = (N - (i + 1)) + 1 by omega, List.take_succ_cons]
  congr 2
  have : ops.toList.drop (i + 1) = (ops.toList.drop i).drop 1 := by rw [List.drop_drop]
  rw [this, h]; rfl
theorem TQ.call (d : Option Tmp) (F' : Slots) {i : Nat} {f : FuncId} {args : Array Value} {v : Value} (hc : ∀ w, Sat w0 M w → Calls P f args w (Ret w v)) (hi : Nat.blt i N = true)
    (hs : callAt P ops.toList F i = some (f, args, d)) (hp : pickD F' (putD n F d v) = some F') (h : TQ P n w0 ops Q N (i + 1) F' M) : TQ P n w0 ops Q N i F M := by
  intro a hF
  obtain ⟨o, h1, h2, h3, h4⟩ := callAt_spec hF hs
  obtain ⟨r, h5, rfl⟩ := take_at hi h1
  rw [h5]
  unfold wpQuiet
  rw [if_pos h2]
  refine ⟨v, fun w hM => ?_, by subst h4; exact h _ (pickD_spec hF hp)⟩
  unfold Oper.quietAt
  rw [h3 w]
  exact ⟨rfl, (hc w hM).mono fun e w' he => ⟨he.1, hM.later he.2⟩⟩
theorem TQ.val (s : Sem Next) (d : Option Tmp) (v : Value) (F' : Slots) {i : Nat} (hv : ∀ w, Sat w0 M w → s.run P w = .ok (.value v) w) (hi : Nat.blt i N = true) (hs : semAt ops.toList F i = some (s, d))
    (hp : pickD F' (putD n F d v) = some F') (h : TQ P n w0 ops Q N (i + 1) F' M) : TQ P n w0 ops Q N i F M := by
  intro a hF
  obtain ⟨o, h1, h2, h3, h4⟩ := semAt_spec hF hs
  obtain ⟨r, h5, rfl⟩ := take_at hi h1
  rw [h5]
  unfold wpQuiet
  rw [if_pos h2]
  refine ⟨v, fun w hM => ?_, by subst h4; exact h _ (pickD_spec hF hp)⟩
  unfold Oper.quietAt
  rw [h3, hv w hM]
  exact ⟨rfl, rfl⟩
end
theorem TQ.done {N i : Nat} (hi : Nat.ble N i = true) (h : TE n w0 Q .normal F M) : TQ P n w0 ops (fun a' => ∀ w', Sat w0 M w' → Q .normal a' w') N i F M := by
  intro a hF
  rw [List.drop_eq_nil_of_le (by have := Nat.le_of_ble_eq_true hi; simp; omega)]
  exact fun w' hM => h a w' hF hM
theorem TQ.next {N i : Nat} {y : Code} (hi : Nat.ble N i = true) (h : TC P n w0 Q y F M) : TQ P n w0 ops (fun a' => ∀ w', Sat w0 M w' → (Exit.then (y.wp P Q) Q) .normal a' w') N i F M :=
  TQ.done (Q := Exit.then (y.wp P Q) Q) hi h
theorem TQ.tail {N i : Nat} (hi : Nat.ble N i = true) (h : TL P n w0 ops Q N F M) : TQ P n w0 ops (fun a' => ∀ w', Sat w0 M w' → wpList P ops Q (ops.toList.drop N) a' w') N i F M := by
  intro a hF
  have e : (ops.toList.take N).drop i = [] := List.drop_eq_nil_of_le (by have := Nat.le_of_ble_eq_true hi; simp; omega)
  rw [e]
  exact fun w' hM => h a w' hF hM
theorem TC.draw {id : Nat} (N : Nat) (hl : Nat.beq ops.toList.length N = true) (hm : P.follows .mixedOrders = true) (hB : Region.lexB .any ops = true)
    (h : TQ P n w0 ops (fun a' => ∀ w', Sat w0 M w' → Q .normal a' w') N 0 F M) : TC P n w0 Q (.region id ops true) F M := by
  intro a w hF hM
  have hl' := Nat.eq_of_beq_eq_true hl
  subst hl'
  refine wp_region_quiet (C := Sat w0 M) hm hB (hM.drawn _) ?_
  have := h a hF
  rw [List.drop_zero, List.take_length] at this
  exact this
def headQ (P : Program) (md : Region.Mode) (ops : Array Oper) (C : World → Prop) (N : Nat) (L : Array Bool → Act → Prop) : Nat → Array Bool → Act → Prop
  | 0, listed, a => L listed a
  | f + 1, listed, a => Region.ready md ops listed ≠ [] ∧ ∀ i ∈ Region.ready md ops listed, i < N ∧ qOp P ops C i (headQ P md ops C N L f (listed.setIfInBounds i true)) a
theorem any_of_headQ {md : Region.Mode} {C : World → Prop} {N g : Nat} {L : Array Bool → Act → Prop} (hL : ∀ listed a w, C w → L listed a → wpAny P md ops Q g listed a w) :
    ∀ (f : Nat) (listed : Array Bool) (a : Act) (w : World), C w → headQ P md ops C N L f listed a → wpAny P md ops Q (f + g) listed a w
  | 0, listed, a, w, hC, h => by rw [Nat.zero_add]; exact hL _ _ _ hC h
  | f + 1, listed, a, w, hC, h => by
    rw [show f + 1 + g = (f + g) + 1 by omega]
    exact ⟨fun h0 => absurd h0 h.1, fun i hi => wpOp_of_qOp hC (fun a' w' hC' h' => any_of_headQ hL f _ a' w' hC' h') (h.2 i hi).2⟩
theorem headQ_first {md : Region.Mode} {C : World → Prop} {N i : Nat} {oi : Oper} {v : Value} {L : Array Bool → Act → Prop} (hi : ops[i]? = some oi)
    (hsel : ∀ (j : Nat) (o : Oper) cs b, ops[j]? = some o → o.op ≠ .select cs b) (hs : Region.sinkB md ops N = true) (hc : Region.chainB md ops N = true) (hn : N < ops.size) (hin : i < N)
    (hdone : ∀ listed a, L listed a → ∀ j ∈ Region.ready md ops listed, N ≤ j) :
    ∀ (f : Nat) (listed : Array Bool) (a : Act), HeadInv md ops N listed →
      (∀ j oj, ops[j]? = some oj → j ≠ i → listed.getD j true = false → (∀ e ∈ oj.after, Region.binds md e = true → e.on ≠ i) → oi.apart ops oj = true) →
      i ∈ Region.ready md ops listed → YieldsIn P ops C oi v a →
      headQ P md ops C N L f (listed.setIfInBounds i true) (a.put oi.dst v) → headQ P md ops C N L (f + 1) listed a := by
  intro f
  induction f with
  | zero =>
    intro listed a inv _ hr hy H
    have hun := (mem_ready.1 hr).1
    refine ⟨fun h => (by rw [h] at hr; cases hr), fun j hj => ?_⟩
    have hjn : j < N := Nat.lt_of_not_le fun h => tail_waits hs hc hn inv _ i rfl hin hun j h hj
    refine ⟨hjn, ?_⟩
    by_cases hji : j = i
    · subst hji; exact hy.qOp hi H
    · have := hdone _ _ H j (ready_mono hj hji)
      omega
  | succ f ih =>
    intro listed a inv hfree hr hy H
    have hun := (mem_ready.1 hr).1
    refine ⟨fun h => (by rw [h] at hr; cases hr), fun j hj => ?_⟩
    have hjn : j < N := Nat.lt_of_not_le fun h => tail_waits hs hc hn inv _ i rfl hin hun j h hj
    refine ⟨hjn, ?_⟩
    by_cases hji : j = i
    · subst hji; exact hy.qOp hi H
    · obtain ⟨hjun, oj, hoj, hall⟩ := mem_ready.1 hj
      have hnot : ∀ e ∈ oj.after, Region.binds md e = true → e.on ≠ i := fun e he hb heq => by
        have h1 := hall e he hb
        rw [heq, getD_both hun] at h1
        cases h1
      have h2 := qOp_put hoj (hfree j oj hoj hji hjun hnot) (fun cs b => hsel i oi cs b hi) (fun cs b => hsel j oj cs b hoj) hy (H.2 j (ready_mono hj hji)).2
      have hfree' : ∀ k ok, ops[k]? = some ok → k ≠ i → (listed.setIfInBounds j true).getD k true = false →
          (∀ e ∈ ok.after, Region.binds md e = true → e.on ≠ i) → oi.apart ops ok = true := fun k ok hk hki hu hno => by
        refine hfree k ok hk hki ?_ hno
        by_cases hjk : j = k
        · subst hjk; exact hjun
        · rw [getD_set_ne true hjk] at hu; exact hu
      refine qOp_mono (fun a' h3 => ih (listed.setIfInBounds j true) a' (inv.set hj hjn) hfree' (ready_mono hr (Ne.symm hji)) h3.1 ?_) h2
      rw [Array.setIfInBounds_comm _ _ hji]
      exact h3.2
theorem headQ_lex {md : Region.Mode} {C : World → Prop} {N g : Nat} {Lq : Act → Prop} (hsel : Region.noSelect ops = true) (hs : Region.sinkB md ops N = true) (hc : Region.chainB md ops N = true)
    (hn : N < ops.size) : ∀ (l : List Oper) (k : Nat) (listed : Array Bool) (a : Act), (∀ j, j < l.length → l[j]? = ops[k + j]?) → k + l.length = N → HeadInv md ops N listed →
    Region.lexHead md ops g l.length k listed = true → wpQuiet P ops C Lq l a →
    headQ P md ops C N (fun listed' a' => Region.seqB md ops g N listed' = true ∧ Lq a') l.length listed a
  | [], k, listed, a, _, hk, _, hB, h => by
    have : k = N := by simpa using hk
    subst this
    exact ⟨by simpa [Region.lexHead] using hB, h⟩
  | o :: l, k, listed, a, hl, hk, inv, hB, h => by
    have h0 : ops[k]? = some o := by simpa using (hl 0 (by simp)).symm
    simp only [List.length_cons, Region.lexHead, Bool.and_eq_true] at hB
    obtain ⟨⟨hr, hf⟩, hB'⟩ := hB
    have hkn : k < N := by simp only [List.length_cons] at hk; omega
    have hr' : k ∈ Region.ready md ops listed := by simpa using hr
    have hst : qOp P ops C k (wpQuiet P ops C Lq l) a := by unfold qOp; simp only [h0]; exact h
    obtain ⟨v, hy, hK⟩ := yieldsIn_of_qOp h0 hst
    exact headQ_first h0 (Region.noSelect_spec hsel) hs hc hn hkn (fun listed' a' hL => seqB_ready hL.1) l.length listed a inv (Region.free_spec h0 hf) hr' hy
      (headQ_lex hsel hs hc hn l (k + 1) _ _ (fun j hj => by have := hl (j + 1) (by simp; omega); simpa [Nat.add_assoc, Nat.add_comm 1 j] using this)
        (by simp only [List.length_cons] at hk; omega) (inv.set hr' hkn) hB' hK)
theorem TC.drawTail {id : Nat} (N : Nat) (hm : P.follows .mixedOrders = true) (hB : Region.lexTailB .any ops N = true)
    (h : TQ P n w0 ops (fun a' => ∀ w', Sat w0 M w' → wpList P ops Q (ops.toList.drop N) a' w') N 0 F M) : TC P n w0 Q (.region id ops true) F M := by
  intro a w hF hM
  simp only [Region.lexTailB, Bool.and_eq_true, decide_eq_true_eq] at hB
  obtain ⟨⟨⟨⟨hsel, hn⟩, hs⟩, hc⟩, hlex⟩ := hB
  have hn' : N < ops.toList.length := by simpa using hn
  have htl : (ops.toList.take N).length = N := by rw [List.length_take]; omega
  have hdl : (ops.toList.drop N).length = ops.size - N := by simp
  have inv0 : HeadInv .any ops N (Array.replicate ops.size false) :=
    ⟨by simp, fun j oj _ hl => (by rw [getD_replicate_false] at hl; cases hl), fun t _ ht => getD_in (by simpa using ht) (getD_replicate_false _ _)⟩
  have H := headQ_lex (md := .any) (g := ops.size - N) (C := Sat w0 M) hsel hs hc hn (ops.toList.take N) 0 _ a (fun j hj => by
    rw [htl] at hj
    rw [List.getElem?_take_of_lt hj, Nat.zero_add, Array.getElem?_toList]) (by simpa using htl) inv0 (by rw [htl]; exact hlex) (by simpa using h a hF)
  refine wp_region_any hm ?_
  have := any_of_headQ (Q := Q) (g := ops.size - N) (fun listed a' w' hC hL => by
    have := wpAny_of_seq (md := .any) (Q' := Q) (ops.toList.drop N) N listed a' w' (fun j => by rw [List.getElem?_drop, Array.getElem?_toList]) (by rw [hdl]; exact hL.1) (hL.2 w' hC)
    rwa [hdl] at this) _ _ _ _ (hM.drawn (w.drawn + 1)) H
  rw [htl, show N + (ops.size - N) = ops.size by omega] at this
  exact this
end
end Go.Eng
end
section
namespace Go.Eng
section
variable {P : Program} {ops : Array Oper} {md : Region.Mode} {C : Array Bool → World → Prop}
def gives (P : Program) (o : Oper) (a : Act) (v : Value) (D : World → Prop) (w : World) : Prop :=
  match (execOp a.eval o).run P w with
  | .ok (.value u) w' => u = v ∧ D w'
  | .ok .skip w' => v = undef ∧ D w'
  | .ok (.enter f args) w' => Calls P f args w' (fun e w'' => e = .returned v ∧ D w'')
  | _ => False
def YG (P : Program) (ops : Array Oper) (C : Array Bool → World → Prop) (i : Nat) (o : Oper) (v : Value) (a : Act) : Prop :=
  (Region.wanted o (yielded ops a.tmps) = true ∧ ∀ (done : Array Bool) w, done.getD i true = false → C done w → gives P o a v (C (done.setIfInBounds i true)) w) ∨
  (Region.wanted o (yielded ops a.tmps) = false ∧ v = undef ∧ ∀ (done : Array Bool) w, done.getD i true = false → C done w → C (done.setIfInBounds i true) w)
theorem YG.of_same {i : Nat} {o : Oper} {v : Value} {a a' : Act} (hy : YG P ops C i o v a) (he : execOp a'.eval o = execOp a.eval o)
    (hw : Region.wanted o (yielded ops a'.tmps) = Region.wanted o (yielded ops a.tmps)) : YG P ops C i o v a' := by
  unfold YG gives at *
  rw [he, hw]
  exact hy
def gOp (P : Program) (ops : Array Oper) (C : Array Bool → World → Prop) (i : Nat) (K : Act → Prop) (a : Act) : Prop :=
  ∃ o v, ops[i]? = some o ∧ YG P ops C i o v a ∧ K (a.put o.dst v)
def anyG (P : Program) (md : Region.Mode) (ops : Array Oper) (C : Array Bool → World → Prop) (L : Array Bool → Act → Prop) : Nat → Array Bool → Act → Prop
  | 0, done, a => L done a
  | f + 1, done, a => Region.ready md ops done ≠ [] ∧ ∀ i ∈ Region.ready md ops done, gOp P ops C i (anyG P md ops C L f (done.setIfInBounds i true)) a
theorem any_of_anyG {L : Array Bool → Act → Prop} {Q : Exit → Act → World → Prop} (hL : ∀ done a w, C done w → L done a → Region.ready md ops done = [] ∧ Q .normal a w) :
    ∀ (f : Nat) (done : Array Bool) (a : Act) (w : World), C done w → anyG P md ops C L f done a → wpAny P md ops Q f done a w
  | 0, done, a, w, hC, h => hL _ _ _ hC h
  | f + 1, done, a, w, hC, h => by
    refine ⟨fun h0 => absurd h0 h.1, fun i hi => ?_⟩
    obtain ⟨o, v, ho, hy, hk⟩ := h.2 i hi
    have hun := (mem_ready.1 hi).1
    unfold wpOp
    simp only [ho]
    rcases hy with ⟨hw, hg⟩ | ⟨hw, rfl, hg⟩
    · rw [if_pos hw]
      refine .inl ?_
      have h3 := hg done w hun hC
      unfold gives at h3
      unfold Oper.wp
      generalize (execOp a.eval o).run P w = r at *
      cases r with
      | ok x w' =>
        cases x <;> simp only at h3 <;> simp only [Oper.upon]
        case value u => obtain ⟨rfl, hD⟩ := h3; exact any_of_anyG hL f _ _ _ hD hk
        case skip => obtain ⟨rfl, hD⟩ := h3; exact any_of_anyG hL f _ _ _ hD hk
        case enter g args => exact h3.mono fun e w'' ⟨he, hD⟩ => by subst he; exact any_of_anyG hL f _ _ _ hD hk
      | halt x w' => simp only at h3
    · rw [hw]
      exact any_of_anyG hL f _ _ _ (hg done w hun hC) hk
theorem gOp_put {i j : Nat} {oi oj : Oper} {v : Value} (hj : ops[j]? = some oj) (hap : oi.apart ops oj = true)
    (hsi : ∀ cs b, oi.op ≠ .select cs b) (hsj : ∀ cs b, oj.op ≠ .select cs b) {K : Act → Prop} {a : Act}
    (hy : YG P ops C i oi v a) (h : gOp P ops C j K (a.put oi.dst v)) :
    gOp P ops C j (fun a' => YG P ops C i oi v a' ∧ K (a'.put oi.dst v)) a := by
  obtain ⟨h1, h2, h3⟩ := Oper.apart_spec hap
  obtain ⟨o, u, ho, hu, hK⟩ := h
  have : o = oj := Option.some.inj (ho.symm.trans hj)
  subst this
  refine ⟨o, u, ho, hu.of_same (execOp_put o hsj a oi.dst v h1).symm (wanted_put o a oi.dst v h1).symm, ?_, by rw [← Act.put_comm a v u h2]; exact hK⟩
  exact hy.of_same (execOp_put oi hsi a o.dst u h3) (wanted_put oi a o.dst u h3)
theorem gOp_mono {i : Nat} {a : Act} {K K' : Act → Prop} (h : ∀ a, K a → K' a) (hh : gOp P ops C i K a) : gOp P ops C i K' a :=
  let ⟨o, v, h1, h2, h3⟩ := hh; ⟨o, v, h1, h2, h _ h3⟩
theorem anyG_first {L : Array Bool → Act → Prop} {i : Nat} {oi : Oper} {v : Value} (hi : ops[i]? = some oi) (hsel : ∀ (j : Nat) (o : Oper) cs b, ops[j]? = some o → o.op ≠ .select cs b)
    (hdone : ∀ done a, L done a → Region.ready md ops done = []) :
    ∀ (f : Nat) (done : Array Bool) (a : Act),
      (∀ j oj, ops[j]? = some oj → j ≠ i → done.getD j true = false → (∀ e ∈ oj.after, Region.binds md e = true → e.on ≠ i) → oi.apart ops oj = true) →
      i ∈ Region.ready md ops done → YG P ops C i oi v a →
      anyG P md ops C L f (done.setIfInBounds i true) (a.put oi.dst v) → anyG P md ops C L (f + 1) done a := by
  intro f
  induction f with
  | zero =>
    intro done a _ hr hy H
    refine ⟨fun h => (by rw [h] at hr; cases hr), fun j hj => ?_⟩
    by_cases hji : j = i
    · subst hji; exact ⟨oi, v, hi, hy, H⟩
    · have := ready_mono hj hji
      rw [hdone _ _ H] at this
      cases this
  | succ f ih =>
    intro done a hfree hr hy H
    refine ⟨fun h => (by rw [h] at hr; cases hr), fun j hj => ?_⟩
    by_cases hji : j = i
    · subst hji; exact ⟨oi, v, hi, hy, H⟩
    · have h1 := H.2 j (ready_mono hj hji)
      obtain ⟨hjun, oj, hoj, hall⟩ := mem_ready.1 hj
      have hnot : ∀ e ∈ oj.after, Region.binds md e = true → e.on ≠ i := fun e he hb heq => by
        have h1 := hall e he hb
        rw [heq, getD_both (mem_ready.1 hr).1] at h1
        cases h1
      have h2 := gOp_put hoj (hfree j oj hoj hji hjun hnot) (fun cs b => hsel i oi cs b hi) (fun cs b => hsel j oj cs b hoj) hy h1
      have hfree' : ∀ k ok, ops[k]? = some ok → k ≠ i → (done.setIfInBounds j true).getD k true = false →
          (∀ e ∈ ok.after, Region.binds md e = true → e.on ≠ i) → oi.apart ops ok = true := fun k ok hk hki hu hno => by
        refine hfree k ok hk hki ?_ hno
        by_cases hjk : j = k
        · subst hjk; exact hjun
        · rw [getD_set_ne true hjk] at hu; exact hu
      refine gOp_mono (fun a' h3 => ih (done.setIfInBounds j true) a' hfree' (ready_mono hr (Ne.symm hji)) h3.1 ?_) h2
      rw [Array.setIfInBounds_comm _ _ hji]
      exact h3.2
def lexG (P : Program) (ops : Array Oper) (C : Array Bool → World → Prop) (Q : Act → Prop) : List Oper → Nat → Act → Prop
  | [], _, a => Q a
  | o :: r, k, a => ∃ v, YG P ops C k o v a ∧ lexG P ops C Q r (k + 1) (a.put o.dst v)
theorem anyG_lex {Q : Act → Prop} (hs : Region.noSelect ops = true) : ∀ (l : List Oper) (k : Nat) (done : Array Bool) (a : Act), (∀ j, l[j]? = ops[k + j]?) → done.size = ops.size →
    (∀ j, j < k → done.getD j false = true) → Region.lexFrom md ops l.length k done = true → lexG P ops C Q l k a →
    anyG P md ops C (fun done a => (Region.ready md ops done = [] ∧ ∀ j, j < ops.size → done.getD j false = true) ∧ Q a) l.length done a
  | [], k, done, a, hl, hsz, hd, hB, h => by
    refine ⟨⟨by simpa [Region.lexFrom] using hB, fun j hj => hd j ?_⟩, h⟩
    have := hl 0
    simp only [List.getElem?_nil, Nat.add_zero] at this
    have := Array.getElem?_eq_none_iff.1 this.symm
    omega
  | o :: l, k, done, a, hl, hsz, hd, hB, h => by
    have h0 : ops[k]? = some o := by simpa using (hl 0).symm
    simp only [List.length_cons, Region.lexFrom, Bool.and_eq_true] at hB
    obtain ⟨⟨hr, hf⟩, hB'⟩ := hB
    obtain ⟨v, hy, hK⟩ := h
    have hks : k < done.size := by rw [hsz]; exact (Array.getElem?_eq_some_iff.1 h0).1
    refine anyG_first h0 (Region.noSelect_spec hs) (fun _ _ h => h.1.1) l.length done a (Region.free_spec h0 hf) (by simpa using hr) hy
      (anyG_lex hs l (k + 1) _ _ (fun j => by have := hl (j + 1); simpa [Nat.add_assoc, Nat.add_comm 1 j] using this) (by simpa using hsz) (fun j hj => ?_) hB' hK)
    by_cases e : k = j
    · subst e; simp [hks]
    · exact (getD_set_ne false e).trans (hd j (by omega))
end
def MG (w0 : Ctx) (M M' : Mem) (k : Nat) (done : Array Bool) (w : World) : Prop := Sat w0 (bif done.getD k false then M' else M) w
def TG (P : Program) (n : Nat) (w0 : Ctx) (ops : Array Oper) (Q : Act → Prop) (k : Nat) (Mr M M' : Mem) (i : Nat) (F : Slots) : Prop :=
  Mr.Sublist M → Mr.Sublist M' → ∀ a, Fr n F a → lexG P ops (MG w0 M M' k) Q (ops.toList.drop i) i a
section
variable {P : Program} {n : Nat} {w0 : Ctx} {ops : Array Oper} {F F' : Slots} {Mr M M' : Mem} {Q : Act → Prop} {k : Nat}
theorem MG.any {done : Array Bool} {w : World} (s1 : Mr.Sublist M) (s2 : Mr.Sublist M') (h : MG w0 M M' k done w) : Sat w0 Mr w := by
  unfold MG at h
  cases hb : done.getD k false with
  | true => rw [hb] at h; exact h.sub s2
  | false => rw [hb] at h; exact h.sub s1
theorem MG.same {done : Array Bool} {w w' : World} {i : Nat} (hik : i ≠ k) (h : MG w0 M M' k done w) (hb : Below w.heap.size w w') : MG w0 M M' k (done.setIfInBounds i true) w' := by
  unfold MG at *
  rw [getD_set_ne false hik]
  exact h.later hb
theorem runR_lexG (s1 : Mr.Sublist M) (s2 : Mr.Sublist M') : ∀ (l : List Oper) (hs : List Nat) (F G : Slots) (es : List (Nat × Nat)) (rest : List Oper) (i : Nat) (a : Act), Fr n F a →
    runR P n ops.toList Mr l hs F = some (G, es) → (∀ p ∈ es, p.1 = p.2) → (i + l.length ≤ k ∨ k < i) → (∀ a', Fr n G a' → lexG P ops (MG w0 M M' k) Q rest (i + l.length) a') →
    lexG P ops (MG w0 M M' k) Q (l ++ rest) i a
  | [], hs, F, G, es, rest, i, a, hF, h, he, hk, hn => by
    simp only [runR, Option.some.injEq, Prod.mk.injEq] at h
    obtain ⟨rfl, rfl⟩ := h
    exact hn a hF
  | o :: l, hs, F, G, es, rest, i, a, hF, h, he, hk, hn => by
    have hik : i ≠ k := by simp only [List.length_cons] at hk; omega
    have hk' : i + 1 + l.length ≤ k ∨ k < i + 1 := by simp only [List.length_cons] at hk; omega
    have hn' : ∀ a', Fr n G a' → lexG P ops (MG w0 M M' k) Q rest (i + 1 + l.length) a' := fun a' ha' => by
      have := hn a' ha'; rwa [List.length_cons, show i + (l.length + 1) = i + 1 + l.length by omega] at this
    simp only [runR] at h
    show lexG P ops (MG w0 M M' k) Q (o :: (l ++ rest)) i a
    split at h
    · rename_i hg
      have hw := guardF_wanted hF hg
      split at h
      · rename_i v es1 hv
        split at h
        · rename_i F1 hF1
          split at h
          · rename_i G' es2 hr
            simp only [Option.some.injEq, Prod.mk.injEq] at h
            obtain ⟨rfl, rfl⟩ := h
            have ih := runR_lexG s1 s2 l _ F1 G' es2 rest (i + 1) (a.put o.dst v) (putD_fr hF hF1) hr (fun p hp => he p (by simp [hp])) hk' hn'
            refine ⟨v, .inl ⟨hw, fun done w _ hC => ?_⟩, ih⟩
            unfold gives
            rcases opVal_sound hF (hC.any s1 s2) hv (fun p hp => he p (by simp [hp])) with e | ⟨e, rfl⟩
            · rw [e]; exact ⟨rfl, hC.same hik (Below.refl _ _)⟩
            · rw [e]; exact ⟨rfl, hC.same hik (Below.refl _ _)⟩
          · cases h
        · cases h
      · cases h
    · rename_i hg
      have hw := guardF_wanted hF hg
      split at h
      · rename_i F1 hF1
        have ih := runR_lexG s1 s2 l _ F1 G es rest (i + 1) (a.put o.dst undef) (putD_fr hF hF1) h he hk' hn'
        exact ⟨undef, .inr ⟨hw, rfl, fun done w _ hC => hC.same hik (Below.refl _ _)⟩, ih⟩
      · cases h
    · cases h
theorem TG.run (j : Nat) (hs : List Nat) (F' : Slots) {i : Nat} (hij : Nat.ble i j = true) (hk : (Nat.ble j k || Nat.blt k i) = true) (hlen : Nat.ble j ops.toList.length = true)
    (hr : OkR (runR P n ops.toList Mr ((ops.toList.drop i).take (j - i)) hs F) F') (h : TG P n w0 ops Q k Mr M M' j F') : TG P n w0 ops Q k Mr M M' i F := by
  intro s1 s2 a hF
  obtain ⟨G, es, hG, he, hsub⟩ := okR_spec hr
  have h1 := Nat.le_of_ble_eq_true hij
  have h2 := Nat.le_of_ble_eq_true hlen
  rw [split_at ops.toList h1]
  have hl : ((ops.toList.drop i).take (j - i)).length = j - i := by rw [List.length_take, List.length_drop]; omega
  refine runR_lexG s1 s2 _ _ _ _ _ _ i a hF hG he ?_ (fun a' ha' => ?_)
  · rw [hl]
    simp only [Bool.or_eq_true] at hk
    rcases hk with hk | hk
    · have := Nat.le_of_ble_eq_true hk; omega
    · have : k + 1 ≤ i := Nat.le_of_ble_eq_true hk
      omega
  · rw [hl, show i + (j - i) = j by omega]
    exact h s1 s2 a' (ha'.sub hsub)
theorem TG.split (t : Nat) (b : Bool) {i : Nat} (ht : look t F = some (.bool b)) (h1 : b = true → TG P n w0 ops Q k Mr M M' i ((t, .bool true) :: F))
    (h2 : b = false → TG P n w0 ops Q k Mr M M' i ((t, .bool false) :: F)) : TG P n w0 ops Q k Mr M M' i F := by
  have key : ∀ (c : Bool), b = c → ∀ a, Fr n F a → Fr n ((t, .bool c) :: F) a := by
    rintro c rfl a hF
    refine hF.sub fun s v hv => ?_
    by_cases e : t = s
    · subst e; rw [look_cons_self] at hv; rw [ht]; exact hv
    · rw [look_cons_ne _ _ e] at hv; exact hv
  intro s1 s2 a hF
  cases hb : b with
  | true => exact h1 hb s1 s2 a (key true hb a hF)
  | false => exact h2 hb s1 s2 a (key false hb a hF)
theorem TG.call (d : Option Tmp) (F' : Slots) {i : Nat} {f : FuncId} {args : Array Value} {v : Value} (hc : ∀ w, Sat w0 Mr w → Calls P f args w (Ret w v)) (hik : Nat.beq i k = false)
    (hs : callAt P ops.toList F i = some (f, args, d)) (hp : pickD F' (putD n F d v) = some F') (h : TG P n w0 ops Q k Mr M M' (i + 1) F') : TG P n w0 ops Q k Mr M M' i F := by
  intro s1 s2 a hF
  have hne : i ≠ k := fun e => by subst e; simp at hik
  obtain ⟨o, h1, h2, h3, h4⟩ := callAt_spec hF hs
  rw [h1]
  refine ⟨v, .inl ⟨h2, fun done w _ hC => ?_⟩, by subst h4; exact h s1 s2 _ (pickD_spec hF hp)⟩
  unfold gives
  rw [h3 w]
  exact (hc w (hC.any s1 s2)).mono fun e w' he => ⟨he.1, hC.same hne he.2⟩
theorem TG.val (s : Sem Next) (d : Option Tmp) (v : Value) (F' : Slots) {i : Nat} (hv : ∀ w, Sat w0 Mr w → s.run P w = .ok (.value v) w) (hik : Nat.beq i k = false)
    (hs : semAt ops.toList F i = some (s, d)) (hp : pickD F' (putD n F d v) = some F') (h : TG P n w0 ops Q k Mr M M' (i + 1) F') : TG P n w0 ops Q k Mr M M' i F := by
  intro s1 s2 a hF
  have hne : i ≠ k := fun e => by subst e; simp at hik
  obtain ⟨o, h1, h2, h3, h4⟩ := semAt_spec hF hs
  rw [h1]
  refine ⟨v, .inl ⟨h2, fun done w _ hC => ?_⟩, by subst h4; exact h s1 s2 _ (pickD_spec hF hp)⟩
  unfold gives
  rw [h3, hv w (hC.any s1 s2)]
  exact ⟨rfl, hC.same hne (Below.refl _ _)⟩
def stAt (P : Program) (ops : List Oper) (F : Slots) (M : Mem) (j b k : Nat) : Option (Mem × List (Nat × Nat)) :=
  match semAt ops F k with
  | some (s, none) => match mw P j b s M with
    | some (.skip, m, es) => some (m, es)
    | _ => none
  | _ => none
def memS : Option (Mem × List (Nat × Nat)) → Option Mem
  | some (m, _) => some m
  | none => none
structure OkS (r : Option (Mem × List (Nat × Nat))) (M' : Mem) : Prop where
  fst : memS r = some M' := by kernel_rfl
  snd : lefts r = rights r := by kernel_rfl
theorem TG.store (j : Nat) (hlen : Nat.blt k ops.toList.length = true) (hr : ∀ b, OkS (stAt P ops.toList F M j b k) M') (h : TG P n w0 ops Q k Mr M M' (k + 1) F) :
    TG P n w0 ops Q k Mr M M' k F := by
  intro s1 s2 a hF
  have hks : k < ops.size := by have := Nat.le_of_ble_eq_true hlen; simp at this; omega
  obtain ⟨s, hs⟩ : ∃ s, semAt ops.toList F k = some (s, none) := by
    have h0 := (hr 0).fst
    unfold stAt at h0
    split at h0
    · rename_i s hs; exact ⟨s, hs⟩
    · cases h0
  obtain ⟨o, h1, h2, h3, h4⟩ := semAt_spec hF hs
  rw [h1]
  refine ⟨undef, .inl ⟨h2, fun done w hun hC => ?_⟩, ?_⟩
  · have hd : done.getD k false = false := getD_both hun
    have hM : Sat w0 M w := by unfold MG at hC; rw [hd] at hC; exact hC
    have hk : k < done.size := by
      rcases Nat.lt_or_ge k done.size with h' | h'
      · exact h'
      · simp [Array.getElem?_eq_none h'] at hun
    obtain ⟨r1, r2⟩ := hr w.heap.size
    unfold stAt at r1 r2
    rw [hs] at r1 r2
    simp only at r1 r2
    unfold gives
    rw [h3]
    cases hm : mw P j w.heap.size s M with
    | none => rw [hm] at r1; cases r1
    | some x =>
      obtain ⟨x, m, es⟩ := x
      rw [hm] at r1 r2
      cases x <;> first | (cases r1; done) | skip
      simp only [memS, Option.some.injEq] at r1
      subst r1
      obtain ⟨w', hrun, hM'⟩ := mw_sound s M w _ _ _ hM rfl hm (eqs_of _ r2)
      rw [hrun]
      refine ⟨rfl, ?_⟩
      unfold MG
      have : (done.setIfInBounds k true).getD k false = true := by simp [hk]
      rw [this]
      exact hM'
  · rw [h4]; exact h s1 s2 a hF
end
section
variable {P : Program} {n : Nat} {w0 : Ctx} {ops : Array Oper} {F F' : Slots} {Mr M M' : Mem} {Q : Exit → Act → World → Prop} {k : Nat}
theorem TG.done {i : Nat} (hi : Nat.ble ops.toList.length i = true) (hk : Nat.blt k ops.toList.length = true) (h : TE n w0 Q .normal F M') :
    TG P n w0 ops (fun a' => ∀ done w', (∀ j, j < ops.size → done.getD j false = true) → MG w0 M M' k done w' → Q .normal a' w') k Mr M M' i F := by
  intro _ _ a hF
  rw [List.drop_eq_nil_of_le (Nat.le_of_ble_eq_true hi)]
  intro done w' hall hM
  have hks : k < ops.size := by have := Nat.le_of_ble_eq_true hk; simp at this; omega
  unfold MG at hM
  rw [hall k hks] at hM
  exact h a w' hF hM
theorem TG.next {i : Nat} {y : Code} (hi : Nat.ble ops.toList.length i = true) (hk : Nat.blt k ops.toList.length = true) (h : TC P n w0 Q y F M') :
    TG P n w0 ops (fun a' => ∀ done w', (∀ j, j < ops.size → done.getD j false = true) → MG w0 M M' k done w' → (Exit.then (y.wp P Q) Q) .normal a' w') k Mr M M' i F :=
  TG.done (Q := Exit.then (y.wp P Q) Q) hi hk h
end
end Go.Eng
end
section
namespace Go.Eng
def wu64 (x : Int) : Int := IntKind.u64.wrap x
def imin (x y : Int) : Int := if y < x then y else x
def kand (k : IntKind) (x y : Int) : Int := k.wrap (BitVec.ofInt k.bits x &&& BitVec.ofInt k.bits y).toNat
theorem cond_t {α : Type} {c : Bool} {x y r : α} (h : c = true) (hx : x = r) : cond c x y = r := by subst h; exact hx
theorem cond_f {α : Type} {c : Bool} {x y r : α} (h : c = false) (hy : y = r) : cond c x y = r := by subst h; exact hy
theorem elim_l {α β γ : Type} {f : α → γ} {g : β → γ} {x : α ⊕ β} {s : α} {r : γ} (h : x = .inl s) (hx : f s = r) : Sum.elim f g x = r := by subst h; exact hx
theorem elim_r {α β γ : Type} {f : α → γ} {g : β → γ} {x : α ⊕ β} {s : β} {r : γ} (h : x = .inr s) (hx : g s = r) : Sum.elim f g x = r := by subst h; exact hx
end Go.Eng
namespace Go.Sky
structure P where
  (X Y : Int)
deriving DecidableEq
def P.c (x : P) : Array Value := #[.int .i64 x.X, .int .i64 x.Y]
def P.v (x : P) : Value := .agg #[.int .i64 x.X, .int .i64 x.Y]
def P.zero : P := ⟨0, 0⟩
theorem P.one (x : P) : x.c.toList.all Value.oneCell' = true := rfl
structure Plot where
  (Radar Time Range Azimuth Height Code : Int)
deriving DecidableEq
def Plot.c (x : Plot) : Array Value := #[.int .i64 x.Radar, .int .i64 x.Time, .int .i64 x.Range, .int .i64 x.Azimuth, .int .i64 x.Height, .int .i64 x.Code]
def Plot.v (x : Plot) : Value := .agg #[.int .i64 x.Radar, .int .i64 x.Time, .int .i64 x.Range, .int .i64 x.Azimuth, .int .i64 x.Height, .int .i64 x.Code]
def Plot.zero : Plot := ⟨0, 0, 0, 0, 0, 0⟩
theorem Plot.one (x : Plot) : x.c.toList.all Value.oneCell' = true := rfl
structure BiasOffset where
  (Range Azimuth Time : Int)
deriving DecidableEq
def BiasOffset.c (x : BiasOffset) : Array Value := #[.int .i64 x.Range, .int .i64 x.Azimuth, .int .i64 x.Time]
def BiasOffset.v (x : BiasOffset) : Value := .agg #[.int .i64 x.Range, .int .i64 x.Azimuth, .int .i64 x.Time]
def BiasOffset.zero : BiasOffset := ⟨0, 0, 0⟩
theorem BiasOffset.one (x : BiasOffset) : x.c.toList.all Value.oneCell' = true := rfl
structure RadarSite where
  (ID : Int)
  (At : P)
  (Reach RangeError AzimuthError : Int)
deriving DecidableEq
def RadarSite.c (x : RadarSite) : Array Value := #[.int .i64 x.ID, .int .i64 x.At.X, .int .i64 x.At.Y, .int .i64 x.Reach, .int .i64 x.RangeError, .int .i64 x.AzimuthError]
def RadarSite.v (x : RadarSite) : Value := .agg #[.int .i64 x.ID, .int .i64 x.At.X, .int .i64 x.At.Y, .int .i64 x.Reach, .int .i64 x.RangeError, .int .i64 x.AzimuthError]
def RadarSite.zero : RadarSite := ⟨0, ⟨0, 0⟩, 0, 0, 0⟩
theorem RadarSite.one (x : RadarSite) : x.c.toList.all Value.oneCell' = true := rfl
structure Track where
  (ID State Time : Int)
  (At Speed : P)
  (Height Rate Radius Code Hits Misses : Int)
deriving DecidableEq
def Track.c (x : Track) : Array Value := #[.int .i64 x.ID, .int .i64 x.State, .int .i64 x.Time, .int .i64 x.At.X, .int .i64 x.At.Y, .int .i64 x.Speed.X, .int .i64 x.Speed.Y, .int .i64 x.Height, .int .i64 x.Rate, .int .i64 x.Radius, .int .i64 x.Code, .int .i64 x.Hits, .int .i64 x.Misses]
def Track.v (x : Track) : Value := .agg #[.int .i64 x.ID, .int .i64 x.State, .int .i64 x.Time, .int .i64 x.At.X, .int .i64 x.At.Y, .int .i64 x.Speed.X, .int .i64 x.Speed.Y, .int .i64 x.Height, .int .i64 x.Rate, .int .i64 x.Radius, .int .i64 x.Code, .int .i64 x.Hits, .int .i64 x.Misses]
def Track.zero : Track := ⟨0, 0, 0, ⟨0, 0⟩, ⟨0, 0⟩, 0, 0, 0, 0, 0, 0⟩
theorem Track.one (x : Track) : x.c.toList.all Value.oneCell' = true := rfl
structure Spot where
  (Time : Int)
  (At : P)
  (Height Code Error : Int)
deriving DecidableEq
def Spot.c (x : Spot) : Array Value := #[.int .i64 x.Time, .int .i64 x.At.X, .int .i64 x.At.Y, .int .i64 x.Height, .int .i64 x.Code, .int .i64 x.Error]
def Spot.v (x : Spot) : Value := .agg #[.int .i64 x.Time, .int .i64 x.At.X, .int .i64 x.At.Y, .int .i64 x.Height, .int .i64 x.Code, .int .i64 x.Error]
def Spot.zero : Spot := ⟨0, ⟨0, 0⟩, 0, 0, 0⟩
theorem Spot.one (x : Spot) : x.c.toList.all Value.oneCell' = true := rfl
structure FilterTrack where
  (Track : Track)
  (Slack : Int)
  (Last : Spot)
deriving DecidableEq
def FilterTrack.c (x : FilterTrack) : Array Value := #[.int .i64 x.Track.ID, .int .i64 x.Track.State, .int .i64 x.Track.Time, .int .i64 x.Track.At.X, .int .i64 x.Track.At.Y, .int .i64 x.Track.Speed.X, .int .i64 x.Track.Speed.Y, .int .i64 x.Track.Height, .int .i64 x.Track.Rate, .int .i64 x.Track.Radius, .int .i64 x.Track.Code, .int .i64 x.Track.Hits, .int .i64 x.Track.Misses, .int .i64 x.Slack, .int .i64 x.Last.Time, .int .i64 x.Last.At.X, .int .i64 x.Last.At.Y, .int .i64 x.Last.Height, .int .i64 x.Last.Code, .int .i64 x.Last.Error]
def FilterTrack.v (x : FilterTrack) : Value := .agg #[.int .i64 x.Track.ID, .int .i64 x.Track.State, .int .i64 x.Track.Time, .int .i64 x.Track.At.X, .int .i64 x.Track.At.Y, .int .i64 x.Track.Speed.X, .int .i64 x.Track.Speed.Y, .int .i64 x.Track.Height, .int .i64 x.Track.Rate, .int .i64 x.Track.Radius, .int .i64 x.Track.Code, .int .i64 x.Track.Hits, .int .i64 x.Track.Misses, .int .i64 x.Slack, .int .i64 x.Last.Time, .int .i64 x.Last.At.X, .int .i64 x.Last.At.Y, .int .i64 x.Last.Height, .int .i64 x.Last.Code, .int .i64 x.Last.Error]
def FilterTrack.zero : FilterTrack := ⟨⟨0, 0, 0, ⟨0, 0⟩, ⟨0, 0⟩, 0, 0, 0, 0, 0, 0⟩, 0, ⟨0, ⟨0, 0⟩, 0, 0, 0⟩⟩
theorem FilterTrack.one (x : FilterTrack) : x.c.toList.all Value.oneCell' = true := rfl
structure BeginState where
  (Hits Scans : Int)
deriving DecidableEq
def BeginState.c (x : BeginState) : Array Value := #[.int .i64 x.Hits, .int .i64 x.Scans]
def BeginState.v (x : BeginState) : Value := .agg #[.int .i64 x.Hits, .int .i64 x.Scans]
def BeginState.zero : BeginState := ⟨0, 0⟩
theorem BeginState.one (x : BeginState) : x.c.toList.all Value.oneCell' = true := rfl
structure ClimbReport where
  (Time Level : Int)
deriving DecidableEq
def ClimbReport.c (x : ClimbReport) : Array Value := #[.int .i64 x.Time, .int .i64 x.Level]
def ClimbReport.v (x : ClimbReport) : Value := .agg #[.int .i64 x.Time, .int .i64 x.Level]
def ClimbReport.zero : ClimbReport := ⟨0, 0⟩
theorem ClimbReport.one (x : ClimbReport) : x.c.toList.all Value.oneCell' = true := rfl
structure Sep where
  (Lateral Vertical : Int)
deriving DecidableEq
def Sep.c (x : Sep) : Array Value := #[.int .i64 x.Lateral, .int .i64 x.Vertical]
def Sep.v (x : Sep) : Value := .agg #[.int .i64 x.Lateral, .int .i64 x.Vertical]
def Sep.zero : Sep := ⟨0, 0⟩
theorem Sep.one (x : Sep) : x.c.toList.all Value.oneCell' = true := rfl
structure AlertPair where
  (A B Seconds : Int)
deriving DecidableEq
def AlertPair.c (x : AlertPair) : Array Value := #[.int .i64 x.A, .int .i64 x.B, .int .i64 x.Seconds]
def AlertPair.v (x : AlertPair) : Value := .agg #[.int .i64 x.A, .int .i64 x.B, .int .i64 x.Seconds]
def AlertPair.zero : AlertPair := ⟨0, 0, 0⟩
theorem AlertPair.one (x : AlertPair) : x.c.toList.all Value.oneCell' = true := rfl
structure Span where
  (From To : Int)
deriving DecidableEq
def Span.c (x : Span) : Array Value := #[.int .i64 x.From, .int .i64 x.To]
def Span.v (x : Span) : Value := .agg #[.int .i64 x.From, .int .i64 x.To]
def Span.zero : Span := ⟨0, 0⟩
theorem Span.one (x : Span) : x.c.toList.all Value.oneCell' = true := rfl
structure Node where
  (Time : Int)
  (At : P)
  (Height : Int)
deriving DecidableEq
def Node.c (x : Node) : Array Value := #[.int .i64 x.Time, .int .i64 x.At.X, .int .i64 x.At.Y, .int .i64 x.Height]
def Node.v (x : Node) : Value := .agg #[.int .i64 x.Time, .int .i64 x.At.X, .int .i64 x.At.Y, .int .i64 x.Height]
def Node.zero : Node := ⟨0, ⟨0, 0⟩, 0⟩
theorem Node.one (x : Node) : x.c.toList.all Value.oneCell' = true := rfl
structure TubeNode where
  (Node : Node)
  (Radius Band : Int)
deriving DecidableEq
def TubeNode.c (x : TubeNode) : Array Value := #[.int .i64 x.Node.Time, .int .i64 x.Node.At.X, .int .i64 x.Node.At.Y, .int .i64 x.Node.Height, .int .i64 x.Radius, .int .i64 x.Band]
def TubeNode.v (x : TubeNode) : Value := .agg #[.int .i64 x.Node.Time, .int .i64 x.Node.At.X, .int .i64 x.Node.At.Y, .int .i64 x.Node.Height, .int .i64 x.Radius, .int .i64 x.Band]
def TubeNode.zero : TubeNode := ⟨⟨0, ⟨0, 0⟩, 0⟩, 0, 0⟩
theorem TubeNode.one (x : TubeNode) : x.c.toList.all Value.oneCell' = true := rfl
structure TrackerRules where
  (Need Of Misses Accel Place Speed : Int)
deriving DecidableEq
def TrackerRules.c (x : TrackerRules) : Array Value := #[.int .i64 x.Need, .int .i64 x.Of, .int .i64 x.Misses, .int .i64 x.Accel, .int .i64 x.Place, .int .i64 x.Speed]
def TrackerRules.v (x : TrackerRules) : Value := .agg #[.int .i64 x.Need, .int .i64 x.Of, .int .i64 x.Misses, .int .i64 x.Accel, .int .i64 x.Place, .int .i64 x.Speed]
def TrackerRules.zero : TrackerRules := ⟨0, 0, 0, 0, 0, 0⟩
theorem TrackerRules.one (x : TrackerRules) : x.c.toList.all Value.oneCell' = true := rfl
structure followed where
  (f : FilterTrack)
  (history : BeginState)
  (hit : Bool)
deriving DecidableEq
def followed.c (x : followed) : Array Value := #[.int .i64 x.f.Track.ID, .int .i64 x.f.Track.State, .int .i64 x.f.Track.Time, .int .i64 x.f.Track.At.X, .int .i64 x.f.Track.At.Y, .int .i64 x.f.Track.Speed.X, .int .i64 x.f.Track.Speed.Y, .int .i64 x.f.Track.Height, .int .i64 x.f.Track.Rate, .int .i64 x.f.Track.Radius, .int .i64 x.f.Track.Code, .int .i64 x.f.Track.Hits, .int .i64 x.f.Track.Misses, .int .i64 x.f.Slack, .int .i64 x.f.Last.Time, .int .i64 x.f.Last.At.X, .int .i64 x.f.Last.At.Y, .int .i64 x.f.Last.Height, .int .i64 x.f.Last.Code, .int .i64 x.f.Last.Error, .int .i64 x.history.Hits, .int .i64 x.history.Scans, .bool x.hit]
def followed.v (x : followed) : Value := .agg #[.int .i64 x.f.Track.ID, .int .i64 x.f.Track.State, .int .i64 x.f.Track.Time, .int .i64 x.f.Track.At.X, .int .i64 x.f.Track.At.Y, .int .i64 x.f.Track.Speed.X, .int .i64 x.f.Track.Speed.Y, .int .i64 x.f.Track.Height, .int .i64 x.f.Track.Rate, .int .i64 x.f.Track.Radius, .int .i64 x.f.Track.Code, .int .i64 x.f.Track.Hits, .int .i64 x.f.Track.Misses, .int .i64 x.f.Slack, .int .i64 x.f.Last.Time, .int .i64 x.f.Last.At.X, .int .i64 x.f.Last.At.Y, .int .i64 x.f.Last.Height, .int .i64 x.f.Last.Code, .int .i64 x.f.Last.Error, .int .i64 x.history.Hits, .int .i64 x.history.Scans, .bool x.hit]
def followed.zero : followed := ⟨⟨⟨0, 0, 0, ⟨0, 0⟩, ⟨0, 0⟩, 0, 0, 0, 0, 0, 0⟩, 0, ⟨0, ⟨0, 0⟩, 0, 0, 0⟩⟩, ⟨0, 0⟩, false⟩
theorem followed.one (x : followed) : x.c.toList.all Value.oneCell' = true := rfl
end Go.Sky
end
