/- The engine, fourth part: a region whose order is drawn and in which one operation writes own memory: one walk of the order of the text serves every order. Conditions: none. -/
import Derived.Test.YtngnagndhikafaaDoorDraw
namespace Go.Eng

section
variable {P : Program} {ops : Array Oper} {md : Region.Mode} {C : Array Bool → World → Prop}

/-- Carried out in w, the operation hands back v, and the world behind it is as asked. -/
def gives (P : Program) (o : Oper) (a : Act) (v : Value) (D : World → Prop) (w : World) : Prop :=
  match (execOp a.eval o).run P w with
  | .ok (.value u) w' => u = v ∧ D w'
  | .ok .skip w' => v = undef ∧ D w'
  | .ok (.enter f args) w' => Calls P f args w' (fun e w'' => e = .returned v ∧ D w'')
  | _ => False

/-- Operation i, not done yet, hands back v whatever else has been done; C: which worlds there are when this has been done. -/
def YG (P : Program) (ops : Array Oper) (C : Array Bool → World → Prop) (i : Nat) (o : Oper) (v : Value) (a : Act) : Prop :=
  (Region.wanted o (yielded ops a.tmps) = true ∧ ∀ (done : Array Bool) w, done.getD i true = false → C done w → gives P o a v (C (done.setIfInBounds i true)) w) ∨
  (Region.wanted o (yielded ops a.tmps) = false ∧ v = undef ∧ ∀ (done : Array Bool) w, done.getD i true = false → C done w → C (done.setIfInBounds i true) w)

theorem YG.of_same {i : Nat} {o : Oper} {v : Value} {a a' : Act} (hy : YG P ops C i o v a) (he : execOp a'.eval o = execOp a.eval o)
    (hw : Region.wanted o (yielded ops a'.tmps) = Region.wanted o (yielded ops a.tmps)) : YG P ops C i o v a' := by
  unfold YG gives at *
  rw [he, hw]
  exact hy

def gOp (P : Program) (ops : Array Oper) (C : Array Bool → World → Prop) (i : Nat) (K : Act → Prop) (a : Act) : Prop :=
  ∃ o v, ops[i]? = some o ∧ YG P ops C i o v a ∧ K (a.put o.dst v)

def anyG (P : Program) (md : Region.Mode) (ops : Array Oper) (C : Array Bool → World → Prop) (L : Array Bool → Act → Prop) : Nat → Array Bool → Act → Prop
  | 0, done, a => L done a
  | f + 1, done, a => Region.ready md ops done ≠ [] ∧ ∀ i ∈ Region.ready md ops done, gOp P ops C i (anyG P md ops C L f (done.setIfInBounds i true)) a

theorem any_of_anyG {L : Array Bool → Act → Prop} {Q : Exit → Act → World → Prop} (hL : ∀ done a w, C done w → L done a → Region.ready md ops done = [] ∧ Q .normal a w) :
    ∀ (f : Nat) (done : Array Bool) (a : Act) (w : World), C done w → anyG P md ops C L f done a → wpAny P md ops Q f done a w
  | 0, done, a, w, hC, h => hL _ _ _ hC h
  | f + 1, done, a, w, hC, h => by
    refine ⟨fun h0 => absurd h0 h.1, fun i hi => ?_⟩
    obtain ⟨o, v, ho, hy, hk⟩ := h.2 i hi
    have hun := (mem_ready.1 hi).1
    unfold wpOp
    simp only [ho]
    rcases hy with ⟨hw, hg⟩ | ⟨hw, rfl, hg⟩
    · rw [if_pos hw]
      refine .inl ?_
      have h3 := hg done w hun hC
      unfold gives at h3
      unfold Oper.wp
      generalize (execOp a.eval o).run P w = r at *
      cases r with
      | ok x w' =>
        cases x <;> simp only at h3 <;> simp only [Oper.upon]
        case value u => obtain ⟨rfl, hD⟩ := h3; exact any_of_anyG hL f _ _ _ hD hk
        case skip => obtain ⟨rfl, hD⟩ := h3; exact any_of_anyG hL f _ _ _ hD hk
        case enter g args => exact h3.mono fun e w'' ⟨he, hD⟩ => by subst he; exact any_of_anyG hL f _ _ _ hD hk
      | halt x w' => simp only at h3
    · rw [hw]
      exact any_of_anyG hL f _ _ _ (hg done w hun hC) hk

theorem gOp_put {i j : Nat} {oi oj : Oper} {v : Value} (hj : ops[j]? = some oj) (hap : oi.apart ops oj = true)
    (hsi : ∀ cs b, oi.op ≠ .select cs b) (hsj : ∀ cs b, oj.op ≠ .select cs b) {K : Act → Prop} {a : Act}
    (hy : YG P ops C i oi v a) (h : gOp P ops C j K (a.put oi.dst v)) :
    gOp P ops C j (fun a' => YG P ops C i oi v a' ∧ K (a'.put oi.dst v)) a := by
  obtain ⟨h1, h2, h3⟩ := Oper.apart_spec hap
  obtain ⟨o, u, ho, hu, hK⟩ := h
  have : o = oj := Option.some.inj (ho.symm.trans hj)
  subst this
  refine ⟨o, u, ho, hu.of_same (execOp_put o hsj a oi.dst v h1).symm (wanted_put o a oi.dst v h1).symm, ?_, by rw [← Act.put_comm a v u h2]; exact hK⟩
  exact hy.of_same (execOp_put oi hsi a o.dst u h3) (wanted_put oi a o.dst u h3)

theorem gOp_mono {i : Nat} {a : Act} {K K' : Act → Prop} (h : ∀ a, K a → K' a) (hh : gOp P ops C i K a) : gOp P ops C i K' a :=
  let ⟨o, v, h1, h2, h3⟩ := hh; ⟨o, v, h1, h2, h _ h3⟩

theorem anyG_first {L : Array Bool → Act → Prop} {i : Nat} {oi : Oper} {v : Value} (hi : ops[i]? = some oi) (hsel : ∀ (j : Nat) (o : Oper) cs b, ops[j]? = some o → o.op ≠ .select cs b)
    (hdone : ∀ done a, L done a → Region.ready md ops done = []) :
    ∀ (f : Nat) (done : Array Bool) (a : Act),
      (∀ j oj, ops[j]? = some oj → j ≠ i → done.getD j true = false → (∀ e ∈ oj.after, Region.binds md e = true → e.on ≠ i) → oi.apart ops oj = true) →
      i ∈ Region.ready md ops done → YG P ops C i oi v a →
      anyG P md ops C L f (done.setIfInBounds i true) (a.put oi.dst v) → anyG P md ops C L (f + 1) done a := by
  intro f
  induction f with
  | zero =>
    intro done a _ hr hy H
    refine ⟨fun h => (by rw [h] at hr; cases hr), fun j hj => ?_⟩
    by_cases hji : j = i
    · subst hji; exact ⟨oi, v, hi, hy, H⟩
    · have := ready_mono hj hji
      rw [hdone _ _ H] at this
      cases this
  | succ f ih =>
    intro done a hfree hr hy H
    refine ⟨fun h => (by rw [h] at hr; cases hr), fun j hj => ?_⟩
    by_cases hji : j = i
    · subst hji; exact ⟨oi, v, hi, hy, H⟩
    · have h1 := H.2 j (ready_mono hj hji)
      obtain ⟨hjun, oj, hoj, hall⟩ := mem_ready.1 hj
      have hnot : ∀ e ∈ oj.after, Region.binds md e = true → e.on ≠ i := fun e he hb heq => by
        have h1 := hall e he hb
        rw [heq, getD_both (mem_ready.1 hr).1] at h1
        cases h1
      have h2 := gOp_put hoj (hfree j oj hoj hji hjun hnot) (fun cs b => hsel i oi cs b hi) (fun cs b => hsel j oj cs b hoj) hy h1
      have hfree' : ∀ k ok, ops[k]? = some ok → k ≠ i → (done.setIfInBounds j true).getD k true = false →
          (∀ e ∈ ok.after, Region.binds md e = true → e.on ≠ i) → oi.apart ops ok = true := fun k ok hk hki hu hno => by
        refine hfree k ok hk hki ?_ hno
        by_cases hjk : j = k
        · subst hjk; exact hjun
        · rw [getD_set_ne true hjk] at hu; exact hu
      refine gOp_mono (fun a' h3 => ih (done.setIfInBounds j true) a' hfree' (ready_mono hr (Ne.symm hji)) h3.1 ?_) h2
      rw [Array.setIfInBounds_comm _ _ hji]
      exact h3.2

/-- The walk in the order of the text. -/
def lexG (P : Program) (ops : Array Oper) (C : Array Bool → World → Prop) (Q : Act → Prop) : List Oper → Nat → Act → Prop
  | [], _, a => Q a
  | o :: r, k, a => ∃ v, YG P ops C k o v a ∧ lexG P ops C Q r (k + 1) (a.put o.dst v)

theorem anyG_lex {Q : Act → Prop} (hs : Region.noSelect ops = true) : ∀ (l : List Oper) (k : Nat) (done : Array Bool) (a : Act), (∀ j, l[j]? = ops[k + j]?) → done.size = ops.size →
    (∀ j, j < k → done.getD j false = true) → Region.lexFrom md ops l.length k done = true → lexG P ops C Q l k a →
    anyG P md ops C (fun done a => (Region.ready md ops done = [] ∧ ∀ j, j < ops.size → done.getD j false = true) ∧ Q a) l.length done a
  | [], k, done, a, hl, hsz, hd, hB, h => by
    refine ⟨⟨by simpa [Region.lexFrom] using hB, fun j hj => hd j ?_⟩, h⟩
    have := hl 0
    simp only [List.getElem?_nil, Nat.add_zero] at this
    have := Array.getElem?_eq_none_iff.1 this.symm
    omega
  | o :: l, k, done, a, hl, hsz, hd, hB, h => by
    have h0 : ops[k]? = some o := by simpa using (hl 0).symm
    simp only [List.length_cons, Region.lexFrom, Bool.and_eq_true] at hB
    obtain ⟨⟨hr, hf⟩, hB'⟩ := hB
    obtain ⟨v, hy, hK⟩ := h
    have hks : k < done.size := by rw [hsz]; exact (Array.getElem?_eq_some_iff.1 h0).1
    refine anyG_first h0 (Region.noSelect_spec hs) (fun _ _ h => h.1.1) l.length done a (Region.free_spec h0 hf) (by simpa using hr) hy
      (anyG_lex hs l (k + 1) _ _ (fun j => by have := hl (j + 1); simpa [Nat.add_assoc, Nat.add_comm 1 j] using this) (by simpa using hsz) (fun j hj => ?_) hB' hK)
    by_cases e : k = j
    · subst e; simp [hks]
    · exact (getD_set_ne false e).trans (hd j (by omega))

theorem wp_region_G {id : Nat} {Q : Exit → Act → World → Prop} {a : Act} {w : World} (hm : P.follows .mixedOrders = true) (hB : Region.lexB .any ops = true)
    (hC : C (Array.replicate ops.size false) { w with drawn := w.drawn + 1 })
    (h : lexG P ops C (fun a' => ∀ done w', (∀ j, j < ops.size → done.getD j false = true) → C done w' → Q .normal a' w') ops.toList 0 a) : (Code.region id ops true).wp P Q a w := by
  simp only [Region.lexB, Bool.and_eq_true] at hB
  have H := anyG_lex (C := C) (md := .any) hB.1 ops.toList 0 (Array.replicate ops.size false) a (by simp) (by simp) (fun j hj => absurd hj (by omega)) (by simpa using hB.2) h
  refine wp_region_any hm (any_of_anyG (C := C) ?_ ops.size _ a _ hC (by simpa using H))
  rintro done a' w' hC' ⟨⟨h1, h2⟩, h3⟩
  exact ⟨h1, h3 done w' h2 hC'⟩
end

/-! ### Triples -/

/-- Own memory: M till operation k is done, M' from then on. -/
def MG (w0 : Ctx) (M M' : Mem) (k : Nat) (done : Array Bool) (w : World) : Prop := Sat w0 (bif done.getD k false then M' else M) w

/-- Mr: what of the own memory no operation of the region writes. -/
def TG (P : Program) (n : Nat) (w0 : Ctx) (ops : Array Oper) (Q : Act → Prop) (k : Nat) (Mr M M' : Mem) (i : Nat) (F : Slots) : Prop :=
  Mr.Sublist M → Mr.Sublist M' → ∀ a, Fr n F a → lexG P ops (MG w0 M M' k) Q (ops.toList.drop i) i a

section
variable {P : Program} {n : Nat} {w0 : Ctx} {ops : Array Oper} {F F' : Slots} {Mr M M' : Mem} {Q : Act → Prop} {k : Nat}

theorem MG.any {done : Array Bool} {w : World} (s1 : Mr.Sublist M) (s2 : Mr.Sublist M') (h : MG w0 M M' k done w) : Sat w0 Mr w := by
  unfold MG at h
  cases hb : done.getD k false with
  | true => rw [hb] at h; exact h.sub s2
  | false => rw [hb] at h; exact h.sub s1

theorem MG.same {done : Array Bool} {w w' : World} {i : Nat} (hik : i ≠ k) (h : MG w0 M M' k done w) (hb : Below w.heap.size w w') : MG w0 M M' k (done.setIfInBounds i true) w' := by
  unfold MG at *
  rw [getD_set_ne false hik]
  exact h.later hb

theorem runR_lexG (s1 : Mr.Sublist M) (s2 : Mr.Sublist M') : ∀ (l : List Oper) (hs : List Nat) (F G : Slots) (es : List (Nat × Nat)) (rest : List Oper) (i : Nat) (a : Act), Fr n F a →
    runR P n ops.toList Mr l hs F = some (G, es) → (∀ p ∈ es, p.1 = p.2) → (i + l.length ≤ k ∨ k < i) → (∀ a', Fr n G a' → lexG P ops (MG w0 M M' k) Q rest (i + l.length) a') →
    lexG P ops (MG w0 M M' k) Q (l ++ rest) i a
  | [], hs, F, G, es, rest, i, a, hF, h, he, hk, hn => by
    simp only [runR, Option.some.injEq, Prod.mk.injEq] at h
    obtain ⟨rfl, rfl⟩ := h
    exact hn a hF
  | o :: l, hs, F, G, es, rest, i, a, hF, h, he, hk, hn => by
    have hik : i ≠ k := by simp only [List.length_cons] at hk; omega
    have hk' : i + 1 + l.length ≤ k ∨ k < i + 1 := by simp only [List.length_cons] at hk; omega
    have hn' : ∀ a', Fr n G a' → lexG P ops (MG w0 M M' k) Q rest (i + 1 + l.length) a' := fun a' ha' => by
      have := hn a' ha'; rwa [List.length_cons, show i + (l.length + 1) = i + 1 + l.length by omega] at this
    simp only [runR] at h
    show lexG P ops (MG w0 M M' k) Q (o :: (l ++ rest)) i a
    split at h
    · rename_i hg
      have hw := guardF_wanted hF hg
      split at h
      · rename_i v es1 hv
        split at h
        · rename_i F1 hF1
          split at h
          · rename_i G' es2 hr
            simp only [Option.some.injEq, Prod.mk.injEq] at h
            obtain ⟨rfl, rfl⟩ := h
            have ih := runR_lexG s1 s2 l _ F1 G' es2 rest (i + 1) (a.put o.dst v) (putD_fr hF hF1) hr (fun p hp => he p (by simp [hp])) hk' hn'
            refine ⟨v, .inl ⟨hw, fun done w _ hC => ?_⟩, ih⟩
            unfold gives
            rcases opVal_sound hF (hC.any s1 s2) hv (fun p hp => he p (by simp [hp])) with e | ⟨e, rfl⟩
            · rw [e]; exact ⟨rfl, hC.same hik (Below.refl _ _)⟩
            · rw [e]; exact ⟨rfl, hC.same hik (Below.refl _ _)⟩
          · cases h
        · cases h
      · cases h
    · rename_i hg
      have hw := guardF_wanted hF hg
      split at h
      · rename_i F1 hF1
        have ih := runR_lexG s1 s2 l _ F1 G es rest (i + 1) (a.put o.dst undef) (putD_fr hF hF1) h he hk' hn'
        exact ⟨undef, .inr ⟨hw, rfl, fun done w _ hC => hC.same hik (Below.refl _ _)⟩, ih⟩
      · cases h
    · cases h

theorem TG.run (j : Nat) (hs : List Nat) (F' : Slots) {i : Nat} (hij : Nat.ble i j = true) (hk : (Nat.ble j k || Nat.blt k i) = true) (hlen : Nat.ble j ops.toList.length = true)
    (hr : OkR (runR P n ops.toList Mr ((ops.toList.drop i).take (j - i)) hs F) F') (h : TG P n w0 ops Q k Mr M M' j F') : TG P n w0 ops Q k Mr M M' i F := by
  intro s1 s2 a hF
  obtain ⟨G, es, hG, he, hsub⟩ := okR_spec hr
  have h1 := Nat.le_of_ble_eq_true hij
  have h2 := Nat.le_of_ble_eq_true hlen
  rw [split_at ops.toList h1]
  have hl : ((ops.toList.drop i).take (j - i)).length = j - i := by rw [List.length_take, List.length_drop]; omega
  refine runR_lexG s1 s2 _ _ _ _ _ _ i a hF hG he ?_ (fun a' ha' => ?_)
  · rw [hl]
    simp only [Bool.or_eq_true] at hk
    rcases hk with hk | hk
    · have := Nat.le_of_ble_eq_true hk; omega
    · have : k + 1 ≤ i := Nat.le_of_ble_eq_true hk
      omega
  · rw [hl, show i + (j - i) = j by omega]
    exact h s1 s2 a' (ha'.sub hsub)

theorem TG.split (t : Nat) (b : Bool) {i : Nat} (ht : look t F = some (.bool b)) (h1 : b = true → TG P n w0 ops Q k Mr M M' i ((t, .bool true) :: F))
    (h2 : b = false → TG P n w0 ops Q k Mr M M' i ((t, .bool false) :: F)) : TG P n w0 ops Q k Mr M M' i F := by
  have key : ∀ (c : Bool), b = c → ∀ a, Fr n F a → Fr n ((t, .bool c) :: F) a := by
    rintro c rfl a hF
    refine hF.sub fun s v hv => ?_
    by_cases e : t = s
    · subst e; rw [look_cons_self] at hv; rw [ht]; exact hv
    · rw [look_cons_ne _ _ e] at hv; exact hv
  intro s1 s2 a hF
  cases hb : b with
  | true => exact h1 hb s1 s2 a (key true hb a hF)
  | false => exact h2 hb s1 s2 a (key false hb a hF)

theorem TG.join (t : Nat) (b : Bool) (j : Nat) (hs1 hs2 : List Nat) (G : Bool → Slots) {i : Nat} (ht : look t F = some (.bool b)) (hij : Nat.ble i j = true)
    (hk : (Nat.ble j k || Nat.blt k i) = true) (hlen : Nat.ble j ops.toList.length = true)
    (h1 : OkR (runR P n ops.toList Mr ((ops.toList.drop i).take (j - i)) hs1 ((t, .bool true) :: F)) (G true))
    (h2 : OkR (runR P n ops.toList Mr ((ops.toList.drop i).take (j - i)) hs2 ((t, .bool false) :: F)) (G false))
    (h : TG P n w0 ops Q k Mr M M' j (G b)) : TG P n w0 ops Q k Mr M M' i F := by
  refine TG.split t b ht (fun e => ?_) (fun e => ?_)
  · subst e; exact TG.run j hs1 (G true) hij hk hlen h1 h
  · subst e; exact TG.run j hs2 (G false) hij hk hlen h2 h

theorem TG.call (d : Option Tmp) (F' : Slots) {i : Nat} {f : FuncId} {args : Array Value} {v : Value} (hc : ∀ w, Sat w0 Mr w → Calls P f args w (Ret w v)) (hik : Nat.beq i k = false)
    (hs : callAt P ops.toList F i = some (f, args, d)) (hp : pickD F' (putD n F d v) = some F') (h : TG P n w0 ops Q k Mr M M' (i + 1) F') : TG P n w0 ops Q k Mr M M' i F := by
  intro s1 s2 a hF
  have hne : i ≠ k := fun e => by subst e; simp at hik
  obtain ⟨o, h1, h2, h3, h4⟩ := callAt_spec hF hs
  rw [h1]
  refine ⟨v, .inl ⟨h2, fun done w _ hC => ?_⟩, by subst h4; exact h s1 s2 _ (pickD_spec hF hp)⟩
  unfold gives
  rw [h3 w]
  exact (hc w (hC.any s1 s2)).mono fun e w' he => ⟨he.1, hC.same hne he.2⟩

theorem TG.val (s : Sem Next) (d : Option Tmp) (v : Value) (F' : Slots) {i : Nat} (hv : ∀ w, Sat w0 Mr w → s.run P w = .ok (.value v) w) (hik : Nat.beq i k = false)
    (hs : semAt ops.toList F i = some (s, d)) (hp : pickD F' (putD n F d v) = some F') (h : TG P n w0 ops Q k Mr M M' (i + 1) F') : TG P n w0 ops Q k Mr M M' i F := by
  intro s1 s2 a hF
  have hne : i ≠ k := fun e => by subst e; simp at hik
  obtain ⟨o, h1, h2, h3, h4⟩ := semAt_spec hF hs
  rw [h1]
  refine ⟨v, .inl ⟨h2, fun done w _ hC => ?_⟩, by subst h4; exact h s1 s2 _ (pickD_spec hF hp)⟩
  unfold gives
  rw [h3, hv w (hC.any s1 s2)]
  exact ⟨rfl, hC.same hne (Below.refl _ _)⟩

/-- What a store at k leaves. -/
def stAt (P : Program) (ops : List Oper) (F : Slots) (M : Mem) (j b k : Nat) : Option (Mem × List (Nat × Nat)) :=
  match semAt ops F k with
  | some (s, none) => match mw P j b s M with
    | some (.skip, m, es) => some (m, es)
    | _ => none
  | _ => none
def memS : Option (Mem × List (Nat × Nat)) → Option Mem
  | some (m, _) => some m
  | none => none
structure OkS (r : Option (Mem × List (Nat × Nat))) (M' : Mem) : Prop where
  fst : memS r = some M' := by kernel_rfl
  snd : lefts r = rights r := by kernel_rfl

/-- The one write. -/
theorem TG.store (j : Nat) (hlen : Nat.blt k ops.toList.length = true) (hr : ∀ b, OkS (stAt P ops.toList F M j b k) M') (h : TG P n w0 ops Q k Mr M M' (k + 1) F) :
    TG P n w0 ops Q k Mr M M' k F := by
  intro s1 s2 a hF
  have hks : k < ops.size := by have := Nat.le_of_ble_eq_true hlen; simp at this; omega
  obtain ⟨s, hs⟩ : ∃ s, semAt ops.toList F k = some (s, none) := by
    have h0 := (hr 0).fst
    unfold stAt at h0
    split at h0
    · rename_i s hs; exact ⟨s, hs⟩
    · cases h0
  obtain ⟨o, h1, h2, h3, h4⟩ := semAt_spec hF hs
  rw [h1]
  refine ⟨undef, .inl ⟨h2, fun done w hun hC => ?_⟩, ?_⟩
  · have hd : done.getD k false = false := getD_both hun
    have hM : Sat w0 M w := by unfold MG at hC; rw [hd] at hC; exact hC
    have hk : k < done.size := by
      rcases Nat.lt_or_ge k done.size with h' | h'
      · exact h'
      · simp [Array.getElem?_eq_none h'] at hun
    obtain ⟨r1, r2⟩ := hr w.heap.size
    unfold stAt at r1 r2
    rw [hs] at r1 r2
    simp only at r1 r2
    unfold gives
    rw [h3]
    cases hm : mw P j w.heap.size s M with
    | none => rw [hm] at r1; cases r1
    | some x =>
      obtain ⟨x, m, es⟩ := x
      rw [hm] at r1 r2
      cases x <;> first | (cases r1; done) | skip
      simp only [memS, Option.some.injEq] at r1
      subst r1
      obtain ⟨w', hrun, hM'⟩ := mw_sound s M w _ _ _ hM rfl hm (eqs_of _ r2)
      rw [hrun]
      refine ⟨rfl, ?_⟩
      unfold MG
      have : (done.setIfInBounds k true).getD k false = true := by simp [hk]
      rw [this]
      exact hM'
  · rw [h4]; exact h s1 s2 a hF

end

section
variable {P : Program} {n : Nat} {w0 : Ctx} {ops : Array Oper} {F F' : Slots} {Mr M M' : Mem} {Q : Exit → Act → World → Prop} {k : Nat}

theorem TG.done {i : Nat} (hi : Nat.ble ops.toList.length i = true) (hk : Nat.blt k ops.toList.length = true) (h : TE n w0 Q .normal F M') :
    TG P n w0 ops (fun a' => ∀ done w', (∀ j, j < ops.size → done.getD j false = true) → MG w0 M M' k done w' → Q .normal a' w') k Mr M M' i F := by
  intro _ _ a hF
  rw [List.drop_eq_nil_of_le (Nat.le_of_ble_eq_true hi)]
  intro done w' hall hM
  have hks : k < ops.size := by have := Nat.le_of_ble_eq_true hk; simp at this; omega
  unfold MG at hM
  rw [hall k hks] at hM
  exact h a w' hF hM
theorem TG.next {i : Nat} {y : Code} (hi : Nat.ble ops.toList.length i = true) (hk : Nat.blt k ops.toList.length = true) (h : TC P n w0 Q y F M') :
    TG P n w0 ops (fun a' => ∀ done w', (∀ j, j < ops.size → done.getD j false = true) → MG w0 M M' k done w' → (Exit.then (y.wp P Q) Q) .normal a' w') k Mr M M' i F :=
  TG.done (Q := Exit.then (y.wp P Q) Q) hi hk h

/-- k: the operation that writes; Mr: the own memory that it leaves alone; M': what is there behind it. -/
theorem TC.drawG {id : Nat} (k : Nat) (Mr M' : Mem) (s1 : Mr.Sublist M) (s2 : Mr.Sublist M') (hm : P.follows .mixedOrders = true) (hB : Region.lexB .any ops = true)
    (h : TG P n w0 ops (fun a' => ∀ done w', (∀ j, j < ops.size → done.getD j false = true) → MG w0 M M' k done w' → Q .normal a' w') k Mr M M' 0 F) : TC P n w0 Q (.region id ops true) F M := by
  intro a w hF hM
  refine wp_region_G (C := MG w0 M M' k) hm hB ?_ (by simpa using h s1 s2 a hF)
  unfold MG
  rw [getD_replicate_false]
  exact hM.drawn _
end
end Go.Eng
