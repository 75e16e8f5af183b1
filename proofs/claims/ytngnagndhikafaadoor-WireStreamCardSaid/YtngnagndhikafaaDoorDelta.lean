/- Steps that name only what is new in slots and memory. Conditions: none. -/
import Derived.Test.YtngnagndhikafaaDoorDraw
namespace Go.Eng

theorem look_more (t : Nat) (F : Slots) : ∀ A : Slots, look t (A ++ F) = match look t A with | some v => some v | none => look t F
  | [] => rfl
  | (k, v) :: A => by
    by_cases e : k = t
    · subst e; rw [List.cons_append, look_cons_self, look_cons_self]
    · rw [List.cons_append, look_cons_ne _ _ e, look_cons_ne _ _ e]; exact look_more t F A
/-- What a run writes and F holds is among A. -/
def freshB (A F : Slots) (l : List Oper) : Bool := l.all fun o => match o.dst with
  | none => true
  | some d => (look d A).isSome || !(look d F).isSome
theorem putD_frame {n : Nat} {F G : Slots} {d : Option Tmp} {v : Value} {t : Nat} (h : putD n F d v = some G) (ht : d ≠ some t) : look t G = look t F := by
  unfold putD at h
  split at h
  · simp only [Option.some.injEq] at h; subst h; rfl
  · rename_i d'
    cases hb : Nat.blt d' n with
    | false => rw [hb] at h; cases h
    | true =>
      rw [hb] at h
      simp only [cond_true, Option.some.injEq] at h
      subst h
      exact look_cons_ne _ _ (fun e => ht (by rw [e]))
theorem runR_frame {P : Program} {n : Nat} {ops : List Oper} {M : Mem} {t : Nat} : ∀ (l : List Oper) (hs : List Nat) (F G : Slots) (es : List (Nat × Nat)), runR P n ops M l hs F = some (G, es) → (∀ o ∈ l, o.dst ≠ some t) → look t G = look t F
  | [], hs, F, G, es, h, _ => by simp only [runR, Option.some.injEq, Prod.mk.injEq] at h; rw [h.1]
  | o :: l, hs, F, G, es, h, ht => by
    have h0 := ht o (List.mem_cons_self ..)
    have h1 : ∀ o ∈ l, o.dst ≠ some t := fun o ho => ht o (List.mem_cons_of_mem _ ho)
    simp only [runR] at h
    split at h
    · split at h
      · split at h
        · rename_i hF1
          split at h
          · rename_i hr
            simp only [Option.some.injEq, Prod.mk.injEq] at h
            rw [← h.1, runR_frame l _ _ _ _ hr h1, putD_frame hF1 h0]
          · cases h
        · cases h
      · cases h
    · split at h
      · rename_i hF1
        rw [runR_frame l _ _ _ _ h h1, putD_frame hF1 h0]
      · cases h
    · cases h
/-- Number i to number k, from the slots F0: A is new, F stays. -/
structure OkA (P : Program) (n : Nat) (l : List Oper) (ops : List Oper) (M : Mem) (i k : Nat) (hs : List Nat) (A F0 F : Slots) : Prop where
  le : Nat.ble i k = true := by kernel_rfl
  fst : keptR A (runR P n ops M ((l.drop i).take (k - i)) hs F0) = some A := by kernel_rfl
  snd : lefts (runR P n ops M ((l.drop i).take (k - i)) hs F0) = rights (runR P n ops M ((l.drop i).take (k - i)) hs F0) := by kernel_rfl
  thd : freshB A F ((l.drop i).take (k - i)) = true := by kernel_rfl
theorem okA_spec {P : Program} {n : Nat} {l ops : List Oper} {M : Mem} {i k : Nat} {hs : List Nat} {A F0 F : Slots} (h : OkA P n l ops M i k hs A F0 F) (hsub : ∀ s v, look s F = some v → look s F0 = some v) :
    ∃ G es, runR P n ops M ((l.drop i).take (k - i)) hs F0 = some (G, es) ∧ (∀ p ∈ es, p.1 = p.2) ∧ ∀ t v, look t (A ++ F) = some v → look t G = some v := by
  obtain ⟨_, h1, h2, h3⟩ := h
  cases hr : runR P n ops M ((l.drop i).take (k - i)) hs F0 with
  | none => rw [hr] at h1; cases h1
  | some x =>
    rw [hr] at h1 h2
    refine ⟨x.1, x.2, rfl, eqs_of _ h2, fun t v ht => ?_⟩
    rw [look_more] at ht
    cases hA : look t A with
    | some u => rw [hA] at ht; simp only [Option.some.injEq] at ht; subst ht; exact pick_look _ _ _ h1 t u hA
    | none =>
      rw [hA] at ht
      simp only at ht
      rw [runR_frame _ _ _ _ _ hr (fun o ho e => ?_)]
      · exact hsub t v ht
      · have := List.all_eq_true.1 h3 o ho
        rw [e] at this
        simp only [hA, ht] at this
        cases this
section
variable {P : Program} {n : Nat} {w0 : Ctx} {ops : Array Oper} {Q : Exit → Act → World → Prop} {F : Slots} {M : Mem}
theorem TL.core (k : Nat) (hs : List Nat) (A F0 : Slots) {i : Nat} (hsub : ∀ s v, look s F = some v → look s F0 = some v) (hr : OkA P n ops.toList ops.toList M i k hs A F0 F) (h : TL P n w0 ops Q k (A ++ F) M) : TL P n w0 ops Q i F0 M := by
  intro a w hF hM
  obtain ⟨G, es, hG, he, hs'⟩ := okA_spec hr hsub
  rw [split_at ops.toList (Nat.le_of_ble_eq_true hr.le)]
  exact runR_wpList _ _ _ _ _ _ a w hF hM hG he (fun a' ha' => h a' w (ha'.sub hs') hM)
theorem TL.r (k : Nat) (hs : List Nat) (A : Slots) {i : Nat} (hr : OkA P n ops.toList ops.toList M i k hs A F F) (h : TL P n w0 ops Q k (A ++ F) M) : TL P n w0 ops Q i F M :=
  TL.core k hs A F (fun _ _ h => h) hr h
theorem look_bool {t : Nat} {b : Bool} (ht : look t F = some (.bool b)) : ∀ s v, look s F = some v → look s ((t, .bool b) :: F) = some v := fun s v hv => by
  by_cases e : t = s
  · subst e; rw [look_cons_self]; exact ht.symm.trans hv
  · rw [look_cons_ne _ _ e]; exact hv
theorem TL.j (t : Nat) (b : Bool) (k : Nat) (hs1 hs2 : List Nat) (A : Bool → Slots) {i : Nat} (ht : look t F = some (.bool b)) (h1 : OkA P n ops.toList ops.toList M i k hs1 (A true) ((t, .bool true) :: F) F)
    (h2 : OkA P n ops.toList ops.toList M i k hs2 (A false) ((t, .bool false) :: F) F) (h : TL P n w0 ops Q k (A b ++ F) M) : TL P n w0 ops Q i F M := by
  refine TL.split t b ht (fun e => ?_) (fun e => ?_)
  · subst e; exact TL.core k hs1 (A true) _ (look_bool ht) h1 h
  · subst e; exact TL.core k hs2 (A false) _ (look_bool ht) h2 h

/-- One operation of another kind: what it is, where its value goes. -/
structure SemOk (n : Nat) (ops : List Oper) (F : Slots) (i : Nat) (s : Sem Next) (d : Nat) : Prop where
  at_ : semAt ops F i = some (s, some d) := by kernel_rfl
  lt : Nat.blt d n = true := by kernel_rfl
structure CallOk (P : Program) (n : Nat) (ops : List Oper) (F : Slots) (i : Nat) (f : FuncId) (args : Array Value) (d : Nat) : Prop where
  at_ : callAt P ops F i = some (f, args, some d) := by kernel_rfl
  lt : Nat.blt d n = true := by kernel_rfl
theorem put_fr {a : Act} {d : Nat} {v : Value} (hF : Fr n F a) (hd : Nat.blt d n = true) : Fr n ((d, v) :: F) (a.put (some d) v) := hF.put (Nat.le_of_ble_eq_true hd) v

structure OkN (r : Option ((Slots × Mem) × List (Nat × Nat))) (F' : Slots) (M' : Mem) : Prop where
  fst : r.map Prod.fst = some (F', M') := by kernel_rfl
  snd : lefts r = rights r := by kernel_rfl
theorem OkN.okW {r : Option ((Slots × Mem) × List (Nat × Nat))} {F' : Slots} {M' : Mem} (h : OkN r F' M') : ∃ es, r = some ((F', M'), es) ∧ ∀ p ∈ es, p.1 = p.2 := by
  obtain ⟨h1, h2⟩ := h
  cases r with
  | none => cases h1
  | some x =>
    obtain ⟨y, es⟩ := x
    simp only [Option.map_some, Option.some.injEq] at h1
    subst h1
    exact ⟨es, rfl, eqs_of _ h2⟩
theorem TL.wr (j : Nat) (F' : Nat → Slots) (M' : Nat → Mem) {i : Nat} (hr : ∀ b, OkN (wrAt P n ops.toList F M j b i) (F' b) (M' b)) (h : ∀ b, TL P n w0 ops Q (i + 1) (F' b) (M' b)) : TL P n w0 ops Q i F M := by
  intro a w hF hM
  obtain ⟨es, hG, he⟩ := (hr w.heap.size).okW
  unfold wrAt at hG
  split at hG
  · rename_i s d hs
    obtain ⟨o, h1, h2, h3, h4⟩ := semAt_spec hF hs
    rw [h1]
    refine wpList_of_wp h2 ?_
    unfold Oper.wp
    rw [h3]
    split at hG
    · rename_i v m es' hm
      split at hG
      · rename_i G' hp
        simp only [Option.some.injEq, Prod.mk.injEq] at hG
        obtain ⟨⟨rfl, rfl⟩, rfl⟩ := hG
        obtain ⟨w', hrun, hM'⟩ := mw_sound s M w _ _ _ hM rfl hm he
        rw [hrun]
        subst h4
        exact h w.heap.size _ w' (putD_fr hF hp) hM'
      · cases hG
    · rename_i m es' hm
      split at hG
      · rename_i G' hp
        simp only [Option.some.injEq, Prod.mk.injEq] at hG
        obtain ⟨⟨rfl, rfl⟩, rfl⟩ := hG
        obtain ⟨w', hrun, hM'⟩ := mw_sound s M w _ _ _ hM rfl hm he
        rw [hrun]
        subst h4
        exact h w.heap.size _ w' (putD_fr hF hp) hM'
      · cases hG
    · cases hG
  · cases hG
/-- A new own block. -/
theorem TL.nw (d : Nat) (v : Nat → Value) (e : Nat → Ent) {i : Nat} (hr : ∀ b, OkN (wrAt P n ops.toList F M 0 b i) ((d, v b) :: F) (e b :: M)) (h : ∀ b, TL P n w0 ops Q (i + 1) ((d, v b) :: F) (e b :: M)) : TL P n w0 ops Q i F M :=
  TL.wr 0 _ _ hr h
/-- A store into an own block. -/
theorem TL.s (j : Nat) (e : Ent) {i : Nat} (hr : ∀ b, OkN (wrAt P n ops.toList F M j b i) F (M.set j e)) (h : TL P n w0 ops Q (i + 1) F (M.set j e)) : TL P n w0 ops Q i F M :=
  TL.wr j (fun _ => F) (fun _ => M.set j e) hr (fun _ => h)
theorem TL.c {α : Type} (d : Nat) (x : α) (e : α → Value) {i : Nat} {f : FuncId} {args : Array Value} (hc : ∀ w, Sat w0 M w → Calls P f args w (Ret w (e x))) (hs : CallOk P n ops.toList F i f args d)
    (h : ∀ r, x = r → TL P n w0 ops Q (i + 1) ((d, e r) :: F) M) : TL P n w0 ops Q i F M := by
  intro a w hF hM
  obtain ⟨o, h1, h2, h3, h4⟩ := callAt_spec hF hs.at_
  rw [h1]
  refine wpList_of_wp h2 ?_
  unfold Oper.wp
  rw [h3 w]
  refine (hc w hM).mono fun e w' he => ?_
  obtain ⟨rfl, hb⟩ := he
  simp only
  rw [h4]
  exact h x rfl _ w' (put_fr hF hs.lt) (hM.later hb)
theorem TL.v (s : Sem Next) (d : Nat) (v : Value) {i : Nat} (hv : ∀ w, Sat w0 M w → s.run P w = .ok (.value v) w) (hs : SemOk n ops.toList F i s d) (h : TL P n w0 ops Q (i + 1) ((d, v) :: F) M) : TL P n w0 ops Q i F M := by
  intro a w hF hM
  obtain ⟨o, h1, h2, h3, h4⟩ := semAt_spec hF hs.at_
  rw [h1]
  refine wpList_of_wp h2 ?_
  unfold Oper.wp
  rw [h3, hv w hM]
  simp only [Oper.upon]
  rw [h4]
  exact h _ w (put_fr hF hs.lt) hM
/-- An operation that turns the world. -/
theorem TL.o {Γ : Type} (s : Sem Next) (d : Nat) (v : Γ → Value) (M' : Γ → Mem) {i : Nat} (hv : ∀ w, Sat w0 M w → ∃ g w', s.run P w = .ok (.value (v g)) w' ∧ Sat w0 (M' g) w') (hs : SemOk n ops.toList F i s d)
    (h : ∀ g, TL P n w0 ops Q (i + 1) ((d, v g) :: F) (M' g)) : TL P n w0 ops Q i F M := by
  intro a w hF hM
  obtain ⟨o, h1, h2, h3, h4⟩ := semAt_spec hF hs.at_
  rw [h1]
  refine wpList_of_wp h2 ?_
  unfold Oper.wp
  obtain ⟨g, w', hr, hM'⟩ := hv w hM
  rw [h3, hr]
  simp only [Oper.upon]
  rw [h4]
  exact h g _ w' (put_fr hF hs.lt) hM'
/-- .. one entry. -/
theorem TL.os {Γ : Type} (s : Sem Next) (d : Nat) (v : Γ → Value) (j : Nat) (e : Γ → Ent) {i : Nat} (hv : ∀ w, Sat w0 M w → ∃ g w', s.run P w = .ok (.value (v g)) w' ∧ Sat w0 (M.set j (e g)) w') (hs : SemOk n ops.toList F i s d)
    (h : ∀ g, TL P n w0 ops Q (i + 1) ((d, v g) :: F) (M.set j (e g))) : TL P n w0 ops Q i F M := TL.o s d v (fun g => M.set j (e g)) hv hs h
/-- .. makes one. -/
theorem TL.on {Γ : Type} (s : Sem Next) (d : Nat) (v : Γ → Value) (e : Γ → Ent) {i : Nat} (hv : ∀ w, Sat w0 M w → ∃ g w', s.run P w = .ok (.value (v g)) w' ∧ Sat w0 (e g :: M) w') (hs : SemOk n ops.toList F i s d)
    (h : ∀ g, TL P n w0 ops Q (i + 1) ((d, v g) :: F) (e g :: M)) : TL P n w0 ops Q i F M := TL.o s d v (fun g => e g :: M) hv hs h
/-- A store that is known by a law of its own. -/
theorem TL.ks {Γ : Type} (s : Sem Next) (j : Nat) (e : Ent) {i : Nat} (hv : ∀ w, Sat w0 M w → ∃ (_ : Γ) (w' : World), s.run P w = .ok .skip w' ∧ Sat w0 (M.set j e) w') (hs : semAt ops.toList F i = some (s, none))
    (h : TL P n w0 ops Q (i + 1) F (M.set j e)) : TL P n w0 ops Q i F M := by
  intro a w hF hM
  obtain ⟨o, h1, h2, h3, h4⟩ := semAt_spec hF hs
  rw [h1]
  refine wpList_of_wp h2 ?_
  unfold Oper.wp
  obtain ⟨_, w', hr, hM'⟩ := hv w hM
  rw [h3, hr]
  simp only [Oper.upon]
  rw [h4]
  exact h _ w' (putD_fr (dst := none) (v := undef) hF rfl) hM'
theorem Sat.given {w0 : Ctx} {w : World} {Mp Mr : Mem} (h : Sat w0 (Mp ++ Mr) w) : Sat ⟨w, feet Mp⟩ Mp w :=
  ⟨Chg.refl _ _, fun e he => ⟨(h.own e (List.mem_append_left _ he)).1, fun _ hb => .inl ⟨e, he, hb⟩⟩, (List.pairwise_append.1 h.apart).1⟩
/-- A call that takes over the entries Mp (the first k) and hands back others. -/
theorem TL.cm {α Γ : Type} (k : Nat) (d : Nat) (x : α) (v : α → Γ → Value) (Mn : α → Γ → Mem) (Mp : Mem) {i : Nat} {f : FuncId} {args : Array Value}
    (he : M = Mp ++ M.drop k) (hc : ∀ w, Sat ⟨w, feet Mp⟩ Mp w → Calls P f args w (RetM ⟨w, feet Mp⟩ (v x) (Mn x))) (hs : CallOk P n ops.toList F i f args d)
    (h : ∀ r, x = r → ∀ g, TL P n w0 ops Q (i + 1) ((d, v r g) :: F) (Mn r g ++ M.drop k)) : TL P n w0 ops Q i F M := by
  intro a w hF hM
  obtain ⟨o, h1, h2, h3, h4⟩ := callAt_spec hF hs.at_
  rw [h1]
  refine wpList_of_wp h2 ?_
  unfold Oper.wp
  rw [h3 w]
  refine (hc w (Sat.given (Mr := M.drop k) (by rw [← he]; exact hM))).mono fun e w' hq => ?_
  obtain ⟨g, rfl, hb⟩ := hq
  simp only
  rw [h4]
  exact h x rfl g _ w' (put_fr hF hs.lt) (Sat.call (by rw [← he]; exact hM) hb)
/-- .. that makes memory alone. -/
theorem TL.cn {α Γ : Type} (d : Nat) (x : α) (v : α → Γ → Value) (Mn : α → Γ → Mem) {i : Nat} {f : FuncId} {args : Array Value}
    (hc : ∀ w, Sat w0 M w → Calls P f args w (RetM (cx w) (v x) (Mn x))) (hs : CallOk P n ops.toList F i f args d)
    (h : ∀ r, x = r → ∀ g, TL P n w0 ops Q (i + 1) ((d, v r g) :: F) (Mn r g ++ M)) : TL P n w0 ops Q i F M := by
  intro a w hF hM
  obtain ⟨o, h1, h2, h3, h4⟩ := callAt_spec hF hs.at_
  rw [h1]
  refine wpList_of_wp h2 ?_
  unfold Oper.wp
  rw [h3 w]
  refine (hc w hM).mono fun e w' hq => ?_
  obtain ⟨g, rfl, h2⟩ := hq
  simp only
  rw [h4]
  refine h x rfl g _ w' (put_fr hF hs.lt) (Sat.call (Mp := []) (Mr := M) hM ?_)
  refine ⟨⟨h2.chg.os, h2.chg.tape, h2.chg.output, h2.chg.size, fun k hk _ => h2.chg.block k hk (fun h => h), h2.chg.drawn⟩, fun e he => ⟨(h2.own e he).1, fun b hb => ?_⟩, h2.apart⟩
  rcases (h2.own e he).2 b hb with h3 | h3
  · exact h3.elim
  · exact .inr h3
/-- .. that hands back nothing. -/
theorem TL.cz {α Γ : Type} (k : Nat) (x : α) (Mn : α → Γ → Mem) (Mp : Mem) {i : Nat} {f : FuncId} {args : Array Value} {u : Value}
    (he : M = Mp ++ M.drop k) (hc : ∀ w, Sat ⟨w, feet Mp⟩ Mp w → Calls P f args w (RetM ⟨w, feet Mp⟩ (fun _ => u) (Mn x))) (hs : callAt P ops.toList F i = some (f, args, none))
    (h : ∀ r, x = r → ∀ g, TL P n w0 ops Q (i + 1) F (Mn r g ++ M.drop k)) : TL P n w0 ops Q i F M := by
  intro a w hF hM
  obtain ⟨o, h1, h2, h3, h4⟩ := callAt_spec hF hs
  rw [h1]
  refine wpList_of_wp h2 ?_
  unfold Oper.wp
  rw [h3 w]
  refine (hc w (Sat.given (Mr := M.drop k) (by rw [← he]; exact hM))).mono fun e w' hq => ?_
  obtain ⟨g, rfl, hb⟩ := hq
  simp only
  rw [h4]
  exact h x rfl g _ w' (putD_fr (dst := none) (v := u) hF rfl) (Sat.call (by rw [← he]; exact hM) hb)
/-! steps that come one behind the other -/
theorem TC.sr {id : Nat} {y : Code} (h : TL P n w0 ops (Exit.then (y.wp P Q) Q) 0 F M) : TC P n w0 Q (.seq (.region id ops false) y) F M := TC.seq (TC.region h)
theorem TL.ns {x y : Code} {i : Nat} (h : TC P n w0 (Exit.then (y.wp P Q) Q) x F M) (hi : Nat.ble ops.toList.length i = true := by kernel_rfl) : TL P n w0 ops (Exit.then ((Code.seq x y).wp P Q) Q) i F M := TL.next hi (TC.seq h)
theorem TL.nr {ops2 : Array Oper} {id : Nat} {y : Code} {i : Nat} (h : TL P n w0 ops2 (Exit.then (y.wp P Q) Q) 0 F M) (hi : Nat.ble ops.toList.length i = true := by kernel_rfl) : TL P n w0 ops (Exit.then ((Code.seq (.region id ops2 false) y).wp P Q) Q) i F M := TL.next hi (TC.sr h)
theorem TC.sn {y : Code} (h : TC P n w0 Q y F M) : TC P n w0 (Exit.then (y.wp P Q) Q) .skip F M := TC.skip (TE.next h)
theorem TC.snr {id : Nat} {y : Code} (h : TL P n w0 ops (Exit.then (y.wp P Q) Q) 0 F M) : TC P n w0 (Exit.then ((Code.seq (.region id ops false) y).wp P Q) Q) .skip F M := TC.sn (TC.sr h)
theorem TE.nr {id : Nat} {y : Code} (h : TL P n w0 ops (Exit.then (y.wp P Q) Q) 0 F M) : TE n w0 (Exit.then ((Code.seq (.region id ops false) y).wp P Q) Q) .normal F M := TE.next (TC.sr h)
theorem TE.rt {K : Act → World → Prop} (h : TE n w0 Q .ret F M) : TE n w0 (Exit.then K Q) .ret F M := h
theorem TE.rb {id : Nat} (h : TE n w0 Q .ret F M) : TE n w0 (Exit.inBlock id Q) .ret F M := h
theorem TE.et {id : Nat} {K : Act → World → Prop} (h : TE n w0 Q (.exit id) F M) : TE n w0 (Exit.then K Q) (.exit id) F M := h
theorem TE.nb {id : Nat} (h : TE n w0 Q .normal F M) : TE n w0 (Exit.inBlock id Q) .normal F M := h
/-- A loop, from the state x on. -/
theorem TC.lw {X : Type} (Fs : X → Slots) (Ms : X → Mem) (m : X → Nat) (I : X → Prop) {c : Code}
    (round : ∀ x, I x → TC P n w0 (Exit.then (fun a w => ∃ y, I y ∧ m y < m x ∧ Fr n (Fs y) a ∧ Sat w0 (Ms y) w) Q) c (Fs x) (Ms x)) (x : X) (hx : I x) (hp : pick ((Fs x).map Prod.fst) F = some (Fs x)) (hs : (Ms x).Sublist M) : TC P n w0 Q (.loop c) F M :=
  TC.weak (Fs x) hp (TC.forget (Ms x) hs (TC.loop Fs Ms m I round x hx))
end
/-! ### Only reading, in whatever order -/
section
variable {P : Program} {n : Nat} {w0 : Ctx} {ops : Array Oper} {Q : Act → Prop} {N : Nat} {F : Slots} {M : Mem}
theorem TQ.core (k : Nat) (hs : List Nat) (A F0 : Slots) {i : Nat} (hsub : ∀ s v, look s F = some v → look s F0 = some v) (hr : OkA P n (ops.toList.take N) ops.toList M i k hs A F0 F) (h : TQ P n w0 ops Q N k (A ++ F) M) : TQ P n w0 ops Q N i F0 M := by
  intro a hF
  obtain ⟨G, es, hG, he, hs'⟩ := okA_spec hr hsub
  rw [split_at (ops.toList.take N) (Nat.le_of_ble_eq_true hr.le)]
  exact runR_wpQuiet _ _ _ _ _ _ a hF hG he (fun a' ha' => h a' (ha'.sub hs'))
theorem TQ.r (k : Nat) (hs : List Nat) (A : Slots) {i : Nat} (hr : OkA P n (ops.toList.take N) ops.toList M i k hs A F F) (h : TQ P n w0 ops Q N k (A ++ F) M) : TQ P n w0 ops Q N i F M :=
  TQ.core k hs A F (fun _ _ h => h) hr h
theorem TQ.j (t : Nat) (b : Bool) (k : Nat) (hs1 hs2 : List Nat) (A : Bool → Slots) {i : Nat} (ht : look t F = some (.bool b)) (h1 : OkA P n (ops.toList.take N) ops.toList M i k hs1 (A true) ((t, .bool true) :: F) F)
    (h2 : OkA P n (ops.toList.take N) ops.toList M i k hs2 (A false) ((t, .bool false) :: F) F) (h : TQ P n w0 ops Q N k (A b ++ F) M) : TQ P n w0 ops Q N i F M := by
  refine TQ.split t b ht (fun e => ?_) (fun e => ?_)
  · subst e; exact TQ.core k hs1 (A true) _ (look_bool ht) h1 h
  · subst e; exact TQ.core k hs2 (A false) _ (look_bool ht) h2 h
theorem TQ.c {α : Type} (d : Nat) (x : α) (e : α → Value) {i : Nat} {f : FuncId} {args : Array Value} (hc : ∀ w, Sat w0 M w → Calls P f args w (Ret w (e x))) (hi : Nat.blt i N = true) (hs : CallOk P n ops.toList F i f args d)
    (h : ∀ r, x = r → TQ P n w0 ops Q N (i + 1) ((d, e r) :: F) M) : TQ P n w0 ops Q N i F M := by
  intro a hF
  obtain ⟨o, h1, h2, h3, h4⟩ := callAt_spec hF hs.at_
  obtain ⟨r, h5, rfl⟩ := take_at hi h1
  rw [h5]
  unfold wpQuiet
  rw [if_pos h2]
  refine ⟨e x, fun w hM => ?_, by rw [h4]; exact h x rfl _ (put_fr hF hs.lt)⟩
  unfold Oper.quietAt
  rw [h3 w]
  exact ⟨rfl, (hc w hM).mono fun e w' he => ⟨he.1, hM.later he.2⟩⟩
theorem TQ.v (s : Sem Next) (d : Nat) (v : Value) {i : Nat} (hv : ∀ w, Sat w0 M w → s.run P w = .ok (.value v) w) (hi : Nat.blt i N = true) (hs : SemOk n ops.toList F i s d) (h : TQ P n w0 ops Q N (i + 1) ((d, v) :: F) M) : TQ P n w0 ops Q N i F M := by
  intro a hF
  obtain ⟨o, h1, h2, h3, h4⟩ := semAt_spec hF hs.at_
  obtain ⟨r, h5, rfl⟩ := take_at hi h1
  rw [h5]
  unfold wpQuiet
  rw [if_pos h2]
  refine ⟨v, fun w hM => ?_, by rw [h4]; exact h _ (put_fr hF hs.lt)⟩
  unfold Oper.quietAt
  rw [h3, hv w hM]
  exact ⟨rfl, rfl⟩
end
end Go.Eng
