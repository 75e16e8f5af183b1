/- The engine: symbolic execution of a Go function over known slots and known own memory, proved sound once. Conditions: none. -/
import Derived.WalkKit
import Derived.Deep.Quiet
import Derived.StillTail
import Derived.KernelRfl
namespace Go.Eng
open Go.RowKit (Below)

abbrev Slots := List (Nat × Value)
abbrev Mem := List (Nat × Obj)

/-- Go's int arithmetic wraps. -/
def w64 (x : Int) : Int := IntKind.i64.wrap x

def look (t : Nat) : Slots → Option Value
  | [] => none
  | (k, v) :: r => bif Nat.beq k t then some v else look t r

def rho (F : Slots) : Operand → Value
  | .tmp t => (look t F).getD undef
  | .const v => v
  | .global g => .pointer (some ⟨g, 0, none⟩)
  | .func f => .func (.func f) #[] #[]

def known (F : Slots) : Operand → Bool
  | .tmp t => (look t F).isSome
  | _ => true

/-- The frame holds these slots. -/
structure Fr (n : Nat) (F : Slots) (a : Act) : Prop where
  size : a.tmps.size = n
  defers : a.defers = []
  has : ∀ t v, look t F = some v → a.tmps[t]? = some v

theorem Fr.eval {n : Nat} {F : Slots} {a : Act} (h : Fr n F a) (x : Operand) (hk : known F x = true) : a.eval x = rho F x := by
  cases x with
  | tmp t =>
    simp only [known] at hk
    obtain ⟨v, hv⟩ := Option.isSome_iff_exists.1 hk
    have := h.has t v hv
    simp only [Act.eval, rho, hv, Option.getD_some]
    rw [Array.getD_eq_getD_getElem?, this]; rfl
  | const v => rfl
  | global g => rfl
  | func f => rfl

theorem look_cons_self (t : Nat) (v : Value) (F : Slots) : look t ((t, v) :: F) = some v := by
  have : Nat.beq t t = true := by simp
  simp only [look, this, cond_true]

theorem look_cons_ne {t k : Nat} (v : Value) (F : Slots) (h : k ≠ t) : look t ((k, v) :: F) = look t F := by
  have : Nat.beq k t = false := by
    cases hb : Nat.beq k t with
    | false => rfl
    | true => exact absurd (Nat.eq_of_beq_eq_true hb) h
  simp only [look, this, cond_false]

theorem Fr.put {n d : Nat} {F : Slots} {a : Act} (h : Fr n F a) (hd : d < n) (v : Value) : Fr n ((d, v) :: F) (a.put (some d) v) := by
  refine ⟨by simpa [Act.put] using h.size, by simpa [Act.put] using h.defers, fun t u ht => ?_⟩
  by_cases e : d = t
  · subst e
    rw [look_cons_self] at ht
    have hs := h.size
    simp only [Option.some.injEq] at ht
    subst ht
    simp [Act.put, hs, hd]
  · rw [look_cons_ne v F e] at ht
    have := h.has t u ht
    simp [Act.put, Array.getElem?_setIfInBounds_ne e, this]

/-- Which slots are kept, in the order that is asked. -/
def pick : List Nat → Slots → Option Slots
  | [], _ => some []
  | k :: ks, G => match look k G with
    | some v => match pick ks G with
      | some r => some ((k, v) :: r)
      | none => none
    | none => none

theorem pick_look : ∀ (ks : List Nat) (G F : Slots), pick ks G = some F → ∀ t v, look t F = some v → look t G = some v
  | [], G, F, h, t, v, hl => by simp only [pick, Option.some.injEq] at h; subst h; cases hl
  | k :: ks, G, F, h, t, v, hl => by
    simp only [pick] at h
    split at h
    · rename_i u hu
      split at h
      · rename_i r hr
        simp only [Option.some.injEq] at h; subst h
        by_cases e : k = t
        · subst e; rw [look_cons_self] at hl; rw [hu]; exact hl
        · rw [look_cons_ne u r e] at hl; exact pick_look ks G r hr t v hl
      · cases h
    · cases h

theorem Fr.sub {n : Nat} {G F : Slots} {a : Act} (h : Fr n G a) (hs : ∀ t v, look t F = some v → look t G = some v) : Fr n F a :=
  ⟨h.size, h.defers, fun t v ht => h.has t v (hs t v ht)⟩

/-! ### Own memory -/

/-- Below the first block of the call's own, the world is as it was; these blocks are the call's own and hold this. -/
structure Sat (w0 : World) (M : Mem) (w : World) : Prop where
  below : Below w0.heap.size w0 w
  own : ∀ p ∈ M, w0.heap.size ≤ p.1 ∧ w.heap[p.1]? = some p.2
  nodup : (M.map Prod.fst).Nodup

theorem Sat.start (w : World) : Sat w [] w := ⟨Below.refl _ _, by simp, by simp⟩

theorem Sat.lt {w0 w : World} {M : Mem} (h : Sat w0 M w) {p : Nat × Obj} (hp : p ∈ M) : p.1 < w.heap.size := by
  have := (h.own p hp).2
  rcases Nat.lt_or_ge p.1 w.heap.size with hl | hg
  · exact hl
  · rw [Array.getElem?_eq_none hg] at this; cases this

theorem Sat.later {w0 w w' : World} {M : Mem} (h : Sat w0 M w) (hb : Below w.heap.size w w') : Sat w0 M w' :=
  ⟨h.below.trans (hb.mono h.below.size), fun p hp => ⟨(h.own p hp).1, (hb.block p.1 (h.lt hp)).trans (h.own p hp).2⟩, h.nodup⟩

theorem Sat.sub {w0 w : World} {M M' : Mem} (h : Sat w0 M w) (hs : M'.Sublist M) : Sat w0 M' w :=
  ⟨h.below, fun p hp => h.own p (hs.subset hp), h.nodup.sublist (hs.map _)⟩

theorem Sat.alloc {w0 w : World} {M : Mem} (h : Sat w0 M w) (o : Obj) : Sat w0 ((w.heap.size, o) :: M) (w.alloc o) := by
  refine ⟨h.below.alloc h.below.size o, fun p hp => ?_, ?_⟩
  · rcases List.mem_cons.1 hp with rfl | hp
    · exact ⟨h.below.size, heap_alloc_new w o⟩
    · exact ⟨(h.own p hp).1, (Below.heap_alloc w o p.1 (h.lt hp)).trans (h.own p hp).2⟩
  · rw [List.map_cons, List.nodup_cons]
    refine ⟨fun hm => ?_, h.nodup⟩
    obtain ⟨p, hp, e⟩ := List.mem_map.1 hm
    have := h.lt hp
    simp only at e
    omega

theorem Sat.drawn {w0 w : World} {M : Mem} (h : Sat w0 M w) (k : Nat) : Sat w0 M { w with drawn := k } :=
  ⟨⟨h.below.os, h.below.tape, h.below.output, h.below.size, h.below.block⟩, h.own, h.nodup⟩

theorem Sat.store {w0 w : World} {M : Mem} (h : Sat w0 M w) {j b : Nat} {c : Array Value} {T : TypeId} (hj : M[j]? = some (b, .cells c T (0, 0))) {x : Addr} (hx : x.block = b)
    (hs : x.spot = none) (v : Value) : Sat w0 (M.set j (b, .cells (c.setIfInBounds x.off v) T (0, 0))) (w.setCell x v) := by
  have hmem : (b, Obj.cells c T (0, 0)) ∈ M := List.mem_of_getElem? hj
  have hb := (h.own _ hmem)
  have hkeys : (M.set j (b, Obj.cells (c.setIfInBounds x.off v) T (0, 0))).map Prod.fst = M.map Prod.fst := by
    rw [List.map_set]
    refine List.ext_getElem? fun i => ?_
    rw [List.getElem?_set]
    split
    · rename_i e; subst e
      split
      · simp [hj]
      · rename_i hlt; simp only [List.length_map] at hlt
        rw [List.getElem?_eq_none (by simpa using hlt)]
    · rfl
  refine ⟨h.below.setCell (by rw [hx]; exact hb.1) v, fun p hp => ?_, by rw [hkeys]; exact h.nodup⟩
  obtain ⟨i, hi⟩ := List.getElem?_of_mem hp
  rw [List.getElem?_set] at hi
  by_cases e : j = i
  · rw [if_pos e] at hi
    split at hi
    · simp only [Option.some.injEq] at hi
      subst hi
      refine ⟨hb.1, ?_⟩
      have := hb.2
      simp only at this
      simp [World.setCell, Array.getElem?_modify, hx, this, hs]
    · cases hi
  · rw [if_neg e] at hi
    have hpm : p ∈ M := List.mem_of_getElem? hi
    have hne : p.1 ≠ x.block := by
      intro e2
      have hn := h.nodup
      have h1 : (M.map Prod.fst)[i]? = some p.1 := by rw [List.getElem?_map, hi]; rfl
      have h2 : (M.map Prod.fst)[j]? = some b := by rw [List.getElem?_map, hj]; rfl
      have hji := (List.getElem?_inj (i := i) (j := j) (List.getElem?_eq_some_iff.1 h1).1 hn).1 (by rw [h1, h2, e2, hx])
      exact e hji.symm
    exact ⟨(h.own p hpm).1, (Below.heap_setCell _ _ _ _ hne).trans (h.own p hpm).2⟩

/-- Read-only evaluation of an operation over own memory; 'j': which own block it reads. -/
def mr {α : Type} (P : Program) (M : Mem) (j : Nat) : Sem α → Option (α × List (Nat × Nat))
  | .pure a => some (a, [])
  | .program k => mr P M j (k P)
  | .mark _ k => mr P M j k
  | .load _ a k => match M[j]? with
    | some (b, .cells c _ _) => match a.spot with
      | none => match c[a.off]? with
        | some v => match mr P M j (k v) with
          | some (r, es) => some (r, (a.block, b) :: es)
          | none => none
        | none => none
      | some _ => none
    | _ => none
  | .shape r k => match M[j]? with
    | some (b, .cells c T _) => match mr P M j (k (some (T, c.size))) with
      | some (x, es) => some (x, (r, b) :: es)
      | none => none
    | _ => none
  | _ => none

theorem mr_sound {α : Type} {P : Program} {w0 w : World} {M : Mem} {j : Nat} (h : Sat w0 M w) (s : Sem α) :
    ∀ (v : α) (es : List (Nat × Nat)), mr P M j s = some (v, es) → (∀ p ∈ es, p.1 = p.2) → s.run P w = .ok v w := by
  induction s with
  | pure a => intro v es hr _; simp only [mr, Option.some.injEq, Prod.mk.injEq] at hr; obtain ⟨rfl, rfl⟩ := hr; rfl
  | program k ih => intro v es hr he; exact ih P v es hr he
  | mark m k ih => intro v es hr he; exact ih v es hr he
  | load m a k ih =>
    intro v es hr he
    simp only [mr] at hr
    split at hr
    · rename_i b c T fz hj
      split at hr
      · rename_i hsp
        split at hr
        · rename_i u hu
          split at hr
          · rename_i r es' hk
            simp only [Option.some.injEq, Prod.mk.injEq] at hr
            obtain ⟨rfl, rfl⟩ := hr
            have hab : a.block = b := he (a.block, b) (by simp)
            have hcell : w.cell? a = some u := by
              have := (h.own _ (List.mem_of_getElem? hj)).2
              simp only at this
              simp [World.cell?, hab, this, hsp, hu]
            simp only [Sem.run, hcell]
            exact ih u _ _ hk (fun p hp => he p (by simp [hp]))
          · cases hr
        · cases hr
      · cases hr
    · cases hr
  | shape r k ih =>
    intro v es hr he
    simp only [mr] at hr
    split at hr
    · rename_i b c T fz hj
      split at hr
      · rename_i x es' hk
        simp only [Option.some.injEq, Prod.mk.injEq] at hr
        obtain ⟨rfl, rfl⟩ := hr
        have hab : r = b := he (r, b) (by simp)
        have hsh : w.shape? r = some (T, c.size) := by
          have := (h.own _ (List.mem_of_getElem? hj)).2
          simp only at this
          simp [World.shape?, hab, this]
        simp only [Sem.run, hsh]
        exact ih _ _ _ hk (fun p hp => he p (by simp [hp]))
      · cases hr
    · cases hr
  | _ => intro v es hr _; simp only [mr] at hr; cases hr

def isPlain : Value → Bool
  | .agg _ => false
  | .tuple _ => false
  | _ => true

/-- An operation that writes own memory, or makes one new block 'b' (and is pure from there on). -/
def mw {α : Type} (P : Program) (j b : Nat) : Sem α → Mem → Option (α × Mem × List (Nat × Nat))
  | .pure a, M => some (a, M, [])
  | .program k, M => mw P j b (k P) M
  | .mark _ k, M => mw P j b k M
  | .load _ a k, M => match M[j]? with
    | some (b', .cells c _ _) => match a.spot with
      | none => match c[a.off]? with
        | some v => match mw P j b (k v) M with
          | some (r, M', es) => some (r, M', (a.block, b') :: es)
          | none => none
        | none => none
      | some _ => none
    | _ => none
  | .store _ a v k, M => match isPlain v with
    | false => none
    | true => match M[j]? with
      | some (b', .cells c T (0, 0)) => match a.spot with
        | none => match c[a.off]? with
          | some _ => match mw P j b k (M.set j (b', .cells (c.setIfInBounds a.off v) T (0, 0))) with
            | some (r, M', es) => some (r, M', (a.block, b') :: es)
            | none => none
          | none => none
        | some _ => none
      | _ => none
  | .new o k, M => match mr P M j (k b) with
    | some (r, es) => some (r, (b, o) :: M, es)
    | none => none
  | _, _ => none

theorem run_store_plain {α : Type} (P : Program) (w : World) (m : Mode) (a : Addr) (v u : Value) (k : Sem α) (hp : isPlain v = true) (hc : w.cell? a = some u) (hf : w.frozen? a = false) :
    (Sem.store m a v k).run P w = k.run P (w.setCell a v) := by
  cases v <;> simp [isPlain] at hp <;> simp [Sem.run, hc, hf]

theorem mw_sound {α : Type} {P : Program} {w0 : World} {j b : Nat} (s : Sem α) :
    ∀ (M : Mem) (w : World) (v : α) (M' : Mem) (es : List (Nat × Nat)), Sat w0 M w → b = w.heap.size → mw P j b s M = some (v, M', es) → (∀ p ∈ es, p.1 = p.2) →
      ∃ w', s.run P w = .ok v w' ∧ Sat w0 M' w' := by
  induction s with
  | pure a => intro M w v M' es h _ hr _; simp only [mw, Option.some.injEq, Prod.mk.injEq] at hr; obtain ⟨rfl, rfl, rfl⟩ := hr; exact ⟨w, rfl, h⟩
  | program k ih => intro M w v M' es h hb hr he; exact ih P M w v M' es h hb hr he
  | mark m k ih => intro M w v M' es h hb hr he; exact ih M w v M' es h hb hr he
  | load m a k ih =>
    intro M w v M' es h hbw hr he
    simp only [mw] at hr
    split at hr
    · rename_i b' c T fz hj
      split at hr
      · rename_i hsp
        split at hr
        · rename_i u hu
          split at hr
          · rename_i r M2 es' hk
            simp only [Option.some.injEq, Prod.mk.injEq] at hr
            obtain ⟨rfl, rfl, rfl⟩ := hr
            have hab : a.block = b' := he (a.block, b') (by simp)
            have hcell : w.cell? a = some u := by
              have := (h.own _ (List.mem_of_getElem? hj)).2
              simp only at this
              simp [World.cell?, hab, this, hsp, hu]
            simp only [Sem.run, hcell]
            exact ih u M w _ _ _ h hbw hk (fun p hp => he p (by simp [hp]))
          · cases hr
        · cases hr
      · cases hr
    · cases hr
  | store m a x k ih =>
    intro M w v M' es h hbw hr he
    simp only [mw] at hr
    split at hr
    · cases hr
    · rename_i hpl
      split at hr
      · rename_i b' c T hj
        split at hr
        · rename_i hsp
          split at hr
          · rename_i u hu
            split at hr
            · rename_i r M2 es' hk
              simp only [Option.some.injEq, Prod.mk.injEq] at hr
              obtain ⟨rfl, rfl, rfl⟩ := hr
              have hab : a.block = b' := he (a.block, b') (by simp)
              have hblk := (h.own _ (List.mem_of_getElem? hj)).2
              simp only at hblk
              have hcell : w.cell? a = some u := by simp [World.cell?, hab, hblk, hsp, hu]
              have hfz : w.frozen? a = false := by simp [World.frozen?, hab, hblk]
              rw [run_store_plain P w m a x u k hpl hcell hfz]
              exact ih _ (w.setCell a x) _ _ _ (h.store hj hab hsp x) (by simpa [World.setCell] using hbw) hk (fun p hp => he p (by simp [hp]))
            · cases hr
          · cases hr
        · cases hr
      · cases hr
  | new o k ih =>
    intro M w v M' es h hbw hr he
    simp only [mw] at hr
    split at hr
    · rename_i r es' hk
      simp only [Option.some.injEq, Prod.mk.injEq] at hr
      obtain ⟨rfl, rfl, rfl⟩ := hr
      subst hbw
      have h2 := h.alloc o
      refine ⟨w.alloc o, ?_, h2⟩
      have h3 : Sat w0 M (w.alloc o) := h2.sub (List.sublist_cons_self _ _)
      exact mr_sound h3 (k w.heap.size) _ _ hk he
    · cases hr
  | _ => intro M w v M' es _ _ hr _; simp only [mw] at hr; cases hr

end Go.Eng
