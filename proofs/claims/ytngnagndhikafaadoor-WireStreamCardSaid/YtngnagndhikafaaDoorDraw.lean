/- The engine, third part: what a function hands back; regions whose order is drawn. Conditions: none. -/
import Derived.Test.YtngnagndhikafaaDoorRun
namespace Go.Eng

/-! ### What is handed back -/

def resF (P : Program) (M : Mem) (F : Slots) : List ResultVar → List Nat → Option (List Value × List (Nat × Nat))
  | [], _ => some ([], [])
  | .tmp t :: r, hs => match look t F with
    | some v => match resF P M F r hs with
      | some (vs, es) => some (v :: vs, es)
      | none => none
    | none => none
  | .cell c T :: r, hs => match look c F with
    | some (.pointer (some a)) => match mr P M (hs.headD 0) (loadVar T a) with
      | some (v, es) => match resF P M F r hs.tail with
        | some (vs, es') => some (v :: vs, es ++ es')
        | none => none
      | none => none
    | _ => none

def packR : List Value → Value
  | [v] => v
  | vs => .tuple vs.toArray

theorem results_run {P : Program} {w0 : Ctx} {w : World} {n : Nat} {F : Slots} {M : Mem} {a : Act} {fn : Func} (hF : Fr n F a) (hM : Sat w0 M w) {hs : List Nat} {vs : List Value} {es : List (Nat × Nat)}
    (h : resF P M F fn.results.toList hs = some (vs, es)) (he : ∀ p ∈ es, p.1 = p.2) : (results fn a.tmps).run P w = .ok (packR vs) w := by
  unfold results
  rw [Array.mapM_eq_mapM_toList]
  generalize fn.results.toList = rs at h
  have key : ∀ (g : ResultVar → Sem Value), (∀ t, g (.tmp t) = pure (a.tmps.getD t undef)) → (∀ b t, g (.cell b t) = (do loadVar t (← asAddr (a.tmps.getD b undef)))) → ∀ (rs : List ResultVar) (hs : List Nat) (vs : List Value) (es : List (Nat × Nat)), resF P M F rs hs = some (vs, es) → (∀ p ∈ es, p.1 = p.2) →
      (List.mapM g rs).run P w = Result.ok vs w := by
    intro g g1 g2 rs
    induction rs with
    | nil => intro hs vs es h he; simp only [resF, Option.some.injEq, Prod.mk.injEq] at h; obtain ⟨rfl, rfl⟩ := h; simp
    | cons x rs ih =>
      intro hs vs es h he
      cases x with
      | tmp t =>
        simp only [resF] at h
        split at h
        · rename_i v hv
          split at h
          · rename_i vs' es' hr
            simp only [Option.some.injEq, Prod.mk.injEq] at h
            obtain ⟨rfl, rfl⟩ := h
            have h1 := ih hs vs' es' hr he
            have h2 : a.tmps.getD t undef = v := by rw [Array.getD_eq_getD_getElem?, hF.has t v hv]; rfl
            simp only [List.mapM_cons, Sem.run_bind, Sem.run_pure, g1, h1, h2, Result.andThen_ok]
          · cases h
        · cases h
      | cell b T =>
        simp only [resF] at h
        split at h
        · rename_i ad hv
          split at h
          · rename_i v es1 hm
            split at h
            · rename_i vs' es' hr
              simp only [Option.some.injEq, Prod.mk.injEq] at h
              obtain ⟨rfl, rfl⟩ := h
              have h1 := ih hs.tail vs' es' hr (fun p hp => he p (by simp [hp]))
              have h2 : asAddr (a.tmps.getD b undef) = pure ad := by rw [Array.getD_eq_getD_getElem?, hF.has b _ hv]; rfl
              have h3 := mr_sound hM _ _ _ hm (fun p hp => he p (by simp [hp]))
              simp only [List.mapM_cons, Sem.run_bind, Sem.run_pure, g2, h1, h2, Result.andThen_ok, h3]
            · cases h
          · cases h
        · cases h
  simp only [Sem.run_bind, Sem.run_map, Sem.run_pure]
  rw [key _ (fun _ => rfl) (fun _ _ => rfl) rs hs vs es h he]
  cases vs with
  | nil => simp [packR]
  | cons v vs => cases vs <;> simp [packR]

def valV : Option (List Value × List (Nat × Nat)) → Option Value
  | some (vs, _) => some (packR vs)
  | none => none
structure OkV (r : Option (List Value × List (Nat × Nat))) (v : Value) : Prop where
  fst : valV r = some v := by kernel_rfl
  snd : lefts r = rights r := by kernel_rfl

section
variable {P : Program} {n : Nat} {w0 : Ctx} {ops : Array Oper} {Q : Exit → Act → World → Prop} {F F' : Slots} {M M' : Mem}

theorem TE.back {fn : Func} {R : Ending → World → Prop} (hs : List Nat) (v : Value) (h : OkV (resF P M F fn.results.toList hs) v) (hR : ∀ w, Sat w0 M w → R (.returned v) w) :
    TE n w0 (bodyPost P fn R) .ret F M := by
  intro a w hF hM
  obtain ⟨h1, h2⟩ := h
  cases hr : resF P M F fn.results.toList hs with
  | none => rw [hr] at h1; cases h1
  | some x =>
    rw [hr] at h1 h2
    simp only [valV, Option.some.injEq] at h1
    subst h1
    exact ⟨hF.defers, _, results_run hF hM hr (eqs_of _ h2), hR w hM⟩

theorem TE.retN {w : World} {fn : Func} {v0 : Value} (hs : List Nat) (v : Value) (h : OkV (resF P M F fn.results.toList hs) v) (hv : v = v0) : TE n (cx w) (bodyPost P fn (Ret w v0)) .normal F M :=
  TE.back hs v h fun _ hM => ⟨congrArg _ hv, hM.below⟩
theorem TE.retM {Γ : Type} {fn : Func} {v0 : Γ → Value} {M0 : Γ → Mem} {x : Exit} (hx : x = .ret ∨ x = .normal) (g : Γ) (hs : List Nat) (v : Value) (h : OkV (resF P M F fn.results.toList hs) v) (hv : v = v0 g)
    (hM : ∀ w, Sat w0 M w → Sat w0 (M0 g) w) : TE n w0 (bodyPost P fn (RetM w0 v0 M0)) x F M := by
  have := TE.back (n := n) (w0 := w0) (R := RetM w0 v0 M0) hs v h fun w hw => ⟨g, congrArg _ hv, hM w hw⟩
  rcases hx with rfl | rfl
  · exact this
  · exact this
theorem TE.backN {fn : Func} {R : Ending → World → Prop} (hs : List Nat) (v : Value) (h : OkV (resF P M F fn.results.toList hs) v) (hR : ∀ w, Sat w0 M w → R (.returned v) w) :
    TE n w0 (bodyPost P fn R) .normal F M := TE.back hs v h hR

/-- .. and it is what was asked. -/
theorem TE.ret {w : World} {fn : Func} {v0 : Value} (hs : List Nat) (v : Value) (h : OkV (resF P M F fn.results.toList hs) v) (hv : v = v0) : TE n (cx w) (bodyPost P fn (Ret w v0)) .ret F M :=
  TE.back hs v h fun _ hM => ⟨congrArg _ hv, hM.below⟩

/-! ### Regions whose order is drawn: reading operations -/

theorem runR_wpQuiet {Q : Act → Prop} : ∀ (l : List Oper) (hs : List Nat) (F G : Slots) (es : List (Nat × Nat)) (rest : List Oper) (a : Act), Fr n F a →
    runR P n ops.toList M l hs F = some (G, es) → (∀ p ∈ es, p.1 = p.2) → (∀ a', Fr n G a' → wpQuiet P ops (Sat w0 M) Q rest a') → wpQuiet P ops (Sat w0 M) Q (l ++ rest) a
  | [], hs, F, G, es, rest, a, hF, h, he, hk => by
    simp only [runR, Option.some.injEq, Prod.mk.injEq] at h
    obtain ⟨rfl, rfl⟩ := h
    exact hk a hF
  | o :: l, hs, F, G, es, rest, a, hF, h, he, hk => by
    simp only [runR] at h
    split at h
    · rename_i hg
      have hw := guardF_wanted hF hg
      split at h
      · rename_i v es1 hv
        split at h
        · rename_i F1 hF1
          split at h
          · rename_i G' es2 hr
            simp only [Option.some.injEq, Prod.mk.injEq] at h
            obtain ⟨rfl, rfl⟩ := h
            have ih := runR_wpQuiet l _ F1 G' es2 rest (a.put o.dst v) (putD_fr hF hF1) hr (fun p hp => he p (by simp [hp])) hk
            show wpQuiet P ops (Sat w0 M) Q (o :: (l ++ rest)) a
            unfold wpQuiet
            rw [if_pos hw]
            refine ⟨v, fun w hM => ?_, ih⟩
            unfold Oper.quietAt
            rcases opVal_sound hF hM hv (fun p hp => he p (by simp [hp])) with e | ⟨e, rfl⟩
            · rw [e]; exact ⟨rfl, rfl⟩
            · rw [e]; exact ⟨rfl, rfl⟩
          · cases h
        · cases h
      · cases h
    · rename_i hg
      have hw := guardF_wanted hF hg
      split at h
      · rename_i F1 hF1
        have ih := runR_wpQuiet l _ F1 G es rest (a.put o.dst undef) (putD_fr hF hF1) h he hk
        show wpQuiet P ops (Sat w0 M) Q (o :: (l ++ rest)) a
        unfold wpQuiet
        rw [hw]
        simpa using ih
      · cases h
    · cases h

section
variable {Q : Act → Prop} {N : Nat}

theorem TQ.run (k : Nat) (hs : List Nat) (F' : Slots) {i : Nat} (hik : Nat.ble i k = true) (hr : OkR (runR P n ops.toList M (((ops.toList.take N).drop i).take (k - i)) hs F) F')
    (h : TQ P n w0 ops Q N k F' M) : TQ P n w0 ops Q N i F M := by
  intro a hF
  obtain ⟨G, es, hG, he, hsub⟩ := okR_spec hr
  rw [split_at (ops.toList.take N) (Nat.le_of_ble_eq_true hik)]
  exact runR_wpQuiet _ _ _ _ _ _ a hF hG he (fun a' ha' => h a' (ha'.sub hsub))

theorem TQ.split (t : Nat) (b : Bool) {i : Nat} (ht : look t F = some (.bool b)) (h1 : b = true → TQ P n w0 ops Q N i ((t, .bool true) :: F) M)
    (h2 : b = false → TQ P n w0 ops Q N i ((t, .bool false) :: F) M) : TQ P n w0 ops Q N i F M := by
  have key : ∀ (c : Bool), b = c → ∀ a, Fr n F a → Fr n ((t, .bool c) :: F) a := by
    rintro c rfl a hF
    refine hF.sub fun s v hv => ?_
    by_cases e : t = s
    · subst e; rw [look_cons_self] at hv; rw [ht]; exact hv
    · rw [look_cons_ne _ _ e] at hv; exact hv
  intro a hF
  cases hb : b with
  | true => exact h1 hb a (key true hb a hF)
  | false => exact h2 hb a (key false hb a hF)

theorem TQ.join (t : Nat) (b : Bool) (k : Nat) (hs1 hs2 : List Nat) (G : Bool → Slots) {i : Nat} (ht : look t F = some (.bool b)) (hik : Nat.ble i k = true)
    (h1 : OkR (runR P n ops.toList M (((ops.toList.take N).drop i).take (k - i)) hs1 ((t, .bool true) :: F)) (G true))
    (h2 : OkR (runR P n ops.toList M (((ops.toList.take N).drop i).take (k - i)) hs2 ((t, .bool false) :: F)) (G false))
    (h : TQ P n w0 ops Q N k (G b) M) : TQ P n w0 ops Q N i F M := by
  refine TQ.split t b ht (fun e => ?_) (fun e => ?_)
  · subst e; exact TQ.run k hs1 (G true) hik h1 h
  · subst e; exact TQ.run k hs2 (G false) hik h2 h

theorem take_at {i : Nat} {o : Oper} {r : List Oper} (hi : Nat.blt i N = true) (h : ops.toList.drop i = o :: r) : ∃ r', (ops.toList.take N).drop i = o :: r' ∧ r' = (ops.toList.take N).drop (i + 1) := by
  have hi' : i < N := Nat.le_of_ble_eq_true hi
  refine ⟨_, ?_, rfl⟩
  rw [List.drop_take, List.drop_take, h, show N - i = (N - (i + 1)) + 1 by omega, List.take_succ_cons]
  congr 2
  have : ops.toList.drop (i + 1) = (ops.toList.drop i).drop 1 := by rw [List.drop_drop]
  rw [this, h]; rfl

theorem TQ.call (d : Option Tmp) (F' : Slots) {i : Nat} {f : FuncId} {args : Array Value} {v : Value} (hc : ∀ w, Sat w0 M w → Calls P f args w (Ret w v)) (hi : Nat.blt i N = true)
    (hs : callAt P ops.toList F i = some (f, args, d)) (hp : pickD F' (putD n F d v) = some F') (h : TQ P n w0 ops Q N (i + 1) F' M) : TQ P n w0 ops Q N i F M := by
  intro a hF
  obtain ⟨o, h1, h2, h3, h4⟩ := callAt_spec hF hs
  obtain ⟨r, h5, rfl⟩ := take_at hi h1
  rw [h5]
  unfold wpQuiet
  rw [if_pos h2]
  refine ⟨v, fun w hM => ?_, by subst h4; exact h _ (pickD_spec hF hp)⟩
  unfold Oper.quietAt
  rw [h3 w]
  exact ⟨rfl, (hc w hM).mono fun e w' he => ⟨he.1, hM.later he.2⟩⟩

/-- An operation whose value is known by a law of its own. -/
theorem TQ.val (s : Sem Next) (d : Option Tmp) (v : Value) (F' : Slots) {i : Nat} (hv : ∀ w, Sat w0 M w → s.run P w = .ok (.value v) w) (hi : Nat.blt i N = true) (hs : semAt ops.toList F i = some (s, d))
    (hp : pickD F' (putD n F d v) = some F') (h : TQ P n w0 ops Q N (i + 1) F' M) : TQ P n w0 ops Q N i F M := by
  intro a hF
  obtain ⟨o, h1, h2, h3, h4⟩ := semAt_spec hF hs
  obtain ⟨r, h5, rfl⟩ := take_at hi h1
  rw [h5]
  unfold wpQuiet
  rw [if_pos h2]
  refine ⟨v, fun w hM => ?_, by subst h4; exact h _ (pickD_spec hF hp)⟩
  unfold Oper.quietAt
  rw [h3, hv w hM]
  exact ⟨rfl, rfl⟩

end

theorem TQ.done {N i : Nat} (hi : Nat.ble N i = true) (h : TE n w0 Q .normal F M) : TQ P n w0 ops (fun a' => ∀ w', Sat w0 M w' → Q .normal a' w') N i F M := by
  intro a hF
  rw [List.drop_eq_nil_of_le (by have := Nat.le_of_ble_eq_true hi; simp; omega)]
  exact fun w' hM => h a w' hF hM

theorem TQ.next {N i : Nat} {y : Code} (hi : Nat.ble N i = true) (h : TC P n w0 Q y F M) : TQ P n w0 ops (fun a' => ∀ w', Sat w0 M w' → (Exit.then (y.wp P Q) Q) .normal a' w') N i F M :=
  TQ.done (Q := Exit.then (y.wp P Q) Q) hi h

theorem TQ.tail {N i : Nat} (hi : Nat.ble N i = true) (h : TL P n w0 ops Q N F M) : TQ P n w0 ops (fun a' => ∀ w', Sat w0 M w' → wpList P ops Q (ops.toList.drop N) a' w') N i F M := by
  intro a hF
  have e : (ops.toList.take N).drop i = [] := List.drop_eq_nil_of_le (by have := Nat.le_of_ble_eq_true hi; simp; omega)
  rw [e]
  exact fun w' hM => h a w' hF hM

theorem TC.draw {id : Nat} (N : Nat) (hl : Nat.beq ops.toList.length N = true) (hm : P.follows .mixedOrders = true) (hB : Region.lexB .any ops = true)
    (h : TQ P n w0 ops (fun a' => ∀ w', Sat w0 M w' → Q .normal a' w') N 0 F M) : TC P n w0 Q (.region id ops true) F M := by
  intro a w hF hM
  have hl' := Nat.eq_of_beq_eq_true hl
  subst hl'
  refine wp_region_quiet (C := Sat w0 M) hm hB (hM.drawn _) ?_
  have := h a hF
  rw [List.drop_zero, List.take_length] at this
  exact this

/-! ### .. behind them a tail in one forced order -/

/-- The first operations, whatever order is picked among them. -/
def headQ (P : Program) (md : Region.Mode) (ops : Array Oper) (C : World → Prop) (N : Nat) (L : Array Bool → Act → Prop) : Nat → Array Bool → Act → Prop
  | 0, listed, a => L listed a
  | f + 1, listed, a => Region.ready md ops listed ≠ [] ∧ ∀ i ∈ Region.ready md ops listed, i < N ∧ qOp P ops C i (headQ P md ops C N L f (listed.setIfInBounds i true)) a

theorem any_of_headQ {md : Region.Mode} {C : World → Prop} {N g : Nat} {L : Array Bool → Act → Prop} (hL : ∀ listed a w, C w → L listed a → wpAny P md ops Q g listed a w) :
    ∀ (f : Nat) (listed : Array Bool) (a : Act) (w : World), C w → headQ P md ops C N L f listed a → wpAny P md ops Q (f + g) listed a w
  | 0, listed, a, w, hC, h => by rw [Nat.zero_add]; exact hL _ _ _ hC h
  | f + 1, listed, a, w, hC, h => by
    rw [show f + 1 + g = (f + g) + 1 by omega]
    exact ⟨fun h0 => absurd h0 h.1, fun i hi => wpOp_of_qOp hC (fun a' w' hC' h' => any_of_headQ hL f _ a' w' hC' h') (h.2 i hi).2⟩

theorem headQ_first {md : Region.Mode} {C : World → Prop} {N i : Nat} {oi : Oper} {v : Value} {L : Array Bool → Act → Prop} (hi : ops[i]? = some oi)
    (hsel : ∀ (j : Nat) (o : Oper) cs b, ops[j]? = some o → o.op ≠ .select cs b) (hs : Region.sinkB md ops N = true) (hc : Region.chainB md ops N = true) (hn : N < ops.size) (hin : i < N)
    (hdone : ∀ listed a, L listed a → ∀ j ∈ Region.ready md ops listed, N ≤ j) :
    ∀ (f : Nat) (listed : Array Bool) (a : Act), HeadInv md ops N listed →
      (∀ j oj, ops[j]? = some oj → j ≠ i → listed.getD j true = false → (∀ e ∈ oj.after, Region.binds md e = true → e.on ≠ i) → oi.apart ops oj = true) →
      i ∈ Region.ready md ops listed → YieldsIn P ops C oi v a →
      headQ P md ops C N L f (listed.setIfInBounds i true) (a.put oi.dst v) → headQ P md ops C N L (f + 1) listed a := by
  intro f
  induction f with
  | zero =>
    intro listed a inv _ hr hy H
    have hun := (mem_ready.1 hr).1
    refine ⟨fun h => (by rw [h] at hr; cases hr), fun j hj => ?_⟩
    have hjn : j < N := Nat.lt_of_not_le fun h => tail_waits hs hc hn inv _ i rfl hin hun j h hj
    refine ⟨hjn, ?_⟩
    by_cases hji : j = i
    · subst hji; exact hy.qOp hi H
    · have := hdone _ _ H j (ready_mono hj hji)
      omega
  | succ f ih =>
    intro listed a inv hfree hr hy H
    have hun := (mem_ready.1 hr).1
    refine ⟨fun h => (by rw [h] at hr; cases hr), fun j hj => ?_⟩
    have hjn : j < N := Nat.lt_of_not_le fun h => tail_waits hs hc hn inv _ i rfl hin hun j h hj
    refine ⟨hjn, ?_⟩
    by_cases hji : j = i
    · subst hji; exact hy.qOp hi H
    · obtain ⟨hjun, oj, hoj, hall⟩ := mem_ready.1 hj
      have hnot : ∀ e ∈ oj.after, Region.binds md e = true → e.on ≠ i := fun e he hb heq => by
        have h1 := hall e he hb
        rw [heq, getD_both hun] at h1
        cases h1
      have h2 := qOp_put hoj (hfree j oj hoj hji hjun hnot) (fun cs b => hsel i oi cs b hi) (fun cs b => hsel j oj cs b hoj) hy (H.2 j (ready_mono hj hji)).2
      have hfree' : ∀ k ok, ops[k]? = some ok → k ≠ i → (listed.setIfInBounds j true).getD k true = false →
          (∀ e ∈ ok.after, Region.binds md e = true → e.on ≠ i) → oi.apart ops ok = true := fun k ok hk hki hu hno => by
        refine hfree k ok hk hki ?_ hno
        by_cases hjk : j = k
        · subst hjk; exact hjun
        · rw [getD_set_ne true hjk] at hu; exact hu
      refine qOp_mono (fun a' h3 => ih (listed.setIfInBounds j true) a' (inv.set hj hjn) hfree' (ready_mono hr (Ne.symm hji)) h3.1 ?_) h2
      rw [Array.setIfInBounds_comm _ _ hji]
      exact h3.2

theorem headQ_lex {md : Region.Mode} {C : World → Prop} {N g : Nat} {Lq : Act → Prop} (hsel : Region.noSelect ops = true) (hs : Region.sinkB md ops N = true) (hc : Region.chainB md ops N = true)
    (hn : N < ops.size) : ∀ (l : List Oper) (k : Nat) (listed : Array Bool) (a : Act), (∀ j, j < l.length → l[j]? = ops[k + j]?) → k + l.length = N → HeadInv md ops N listed →
    Region.lexHead md ops g l.length k listed = true → wpQuiet P ops C Lq l a →
    headQ P md ops C N (fun listed' a' => Region.seqB md ops g N listed' = true ∧ Lq a') l.length listed a
  | [], k, listed, a, _, hk, _, hB, h => by
    have : k = N := by simpa using hk
    subst this
    exact ⟨by simpa [Region.lexHead] using hB, h⟩
  | o :: l, k, listed, a, hl, hk, inv, hB, h => by
    have h0 : ops[k]? = some o := by simpa using (hl 0 (by simp)).symm
    simp only [List.length_cons, Region.lexHead, Bool.and_eq_true] at hB
    obtain ⟨⟨hr, hf⟩, hB'⟩ := hB
    have hkn : k < N := by simp only [List.length_cons] at hk; omega
    have hr' : k ∈ Region.ready md ops listed := by simpa using hr
    have hst : qOp P ops C k (wpQuiet P ops C Lq l) a := by unfold qOp; simp only [h0]; exact h
    obtain ⟨v, hy, hK⟩ := yieldsIn_of_qOp h0 hst
    exact headQ_first h0 (Region.noSelect_spec hsel) hs hc hn hkn (fun listed' a' hL => seqB_ready hL.1) l.length listed a inv (Region.free_spec h0 hf) hr' hy
      (headQ_lex hsel hs hc hn l (k + 1) _ _ (fun j hj => by have := hl (j + 1) (by simp; omega); simpa [Nat.add_assoc, Nat.add_comm 1 j] using this)
        (by simp only [List.length_cons] at hk; omega) (inv.set hr' hkn) hB' hK)

theorem TC.drawTail {id : Nat} (N : Nat) (hm : P.follows .mixedOrders = true) (hB : Region.lexTailB .any ops N = true)
    (h : TQ P n w0 ops (fun a' => ∀ w', Sat w0 M w' → wpList P ops Q (ops.toList.drop N) a' w') N 0 F M) : TC P n w0 Q (.region id ops true) F M := by
  intro a w hF hM
  simp only [Region.lexTailB, Bool.and_eq_true, decide_eq_true_eq] at hB
  obtain ⟨⟨⟨⟨hsel, hn⟩, hs⟩, hc⟩, hlex⟩ := hB
  have hn' : N < ops.toList.length := by simpa using hn
  have htl : (ops.toList.take N).length = N := by rw [List.length_take]; omega
  have hdl : (ops.toList.drop N).length = ops.size - N := by simp
  have inv0 : HeadInv .any ops N (Array.replicate ops.size false) :=
    ⟨by simp, fun j oj _ hl => (by rw [getD_replicate_false] at hl; cases hl), fun t _ ht => getD_in (by simpa using ht) (getD_replicate_false _ _)⟩
  have H := headQ_lex (md := .any) (g := ops.size - N) (C := Sat w0 M) hsel hs hc hn (ops.toList.take N) 0 _ a (fun j hj => by
    rw [htl] at hj
    rw [List.getElem?_take_of_lt hj, Nat.zero_add, Array.getElem?_toList]) (by simpa using htl) inv0 (by rw [htl]; exact hlex) (by simpa using h a hF)
  refine wp_region_any hm ?_
  have := any_of_headQ (Q := Q) (g := ops.size - N) (fun listed a' w' hC hL => by
    have := wpAny_of_seq (md := .any) (Q' := Q) (ops.toList.drop N) N listed a' w' (fun j => by rw [List.getElem?_drop, Array.getElem?_toList]) (by rw [hdl]; exact hL.1) (hL.2 w' hC)
    rwa [hdl] at this) _ _ _ _ (hM.drawn (w.drawn + 1)) H
  rw [htl, show N + (ops.size - N) = ops.size by omega] at this
  exact this

end
end Go.Eng
