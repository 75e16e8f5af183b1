/- Further steps in a region whose order is drawn; a tail behind it. Conditions: in each theorem. -/
import Derived.Test.YtngnagndhikafaaDoorPlan
namespace Go.Eng
theorem mS1 {S : Nat → Bool} {a0 : Nat} {x0 : Bool} (h0 : S a0 = x0) : List.map S [a0] = [x0] := by subst h0; rfl
section
variable {G : Type} {P : Program} {n : Nat} {w0 : Ctx} {ops : Array Oper} {base : Slots} {vals : G → List Value} {writes : List Nat} {mem : List Bool → G → Mem}
theorem Steps.callNL {Γ : Type} (set : Γ → G → G) (f : FuncId) (args : G → Array Value) (Mv : G → Mem) (E' : Γ → G → Mem) (D : List Nat) (d : Option Tmp) (v : Γ → G → Value) {i : Nat}
    (hM : ∀ S γ w, (∀ e : Nat, (aftAt ops.toList i).contains e = true → S e = true) → Sat w0 (mem (writes.map S) γ) w → Sat w0 (Mv γ) w)
    (hpost : ∀ S γ g, S i = false → (∀ e : Nat, (aftAt ops.toList i).contains e = true → S e = true) → (∀ k : Nat, (aftAt ops.toList k).contains i = true → S k = false) → (E' g γ ++ mem (writes.map S) γ).Perm (mem (writes.map (upS S i)) (set g γ)))
    (hv : ∀ γ w, Sat w0 (Mv γ) w → Calls P f (args γ) w (RetM (cx w) (fun g => v g γ) (fun g => E' g γ)))
    (hs : ∀ γ, callAt P ops.toList (allS ops.toList base (vals γ)) i = some (f, args γ, d)) (hval : ∀ γ g, (vals (set g γ))[i]? = some (v g γ))
    (hD : depB ops.toList i D = true) (hmask : ∀ γ g, maskL D 0 (vals (set g γ)) = maskL D 0 (vals γ))
    (h : Steps P w0 ops base vals writes mem (ops.toList.drop (i + 1)) (i + 1)) : Steps P w0 ops base vals writes mem (ops.toList.drop i) i := by
  refine Steps.cons_of (fun o ho S γ w hSi hd hc hMw => ?_) h
  have hd' : ∀ e : Nat, (aftAt ops.toList i).contains e = true → S e = true := fun e he => hd e (by unfold aftAt at he; rw [ho] at he; simpa using he)
  have hsγ := hs γ
  unfold callAt at hsγ
  split at hsγ
  · rename_i s d' hsem
    split at hsγ
    · rename_i f' args' hm
      simp only [Option.some.injEq, Prod.mk.injEq] at hsγ
      obtain ⟨rfl, hargs, rfl⟩ := hsγ
      obtain ⟨o', h1, h2, h3, h4⟩ := semAt_get hsem
      rw [ho] at h1
      simp only [Option.some.injEq] at h1
      subst h1
      rw [h2]
      simp only
      unfold GivesK
      rw [h3, mr_sound (Sat.start w) s _ _ hm (by simp)]
      simp only
      rw [hargs]
      refine (hv γ w (hM S γ w hd' hMw)).mono fun e w' he => ?_
      obtain ⟨g, rfl, hMn⟩ := he
      refine ⟨_, rfl, set g γ, agree hD hSi hc (hmask γ g), hval γ g, ?_⟩
      refine (Sat.call (Mp := []) (Mr := mem (writes.map S) γ) hMw ?_).perm (hpost S γ g hSi hd' (later_of hSi hc))
      exact ⟨⟨hMn.chg.os, hMn.chg.tape, hMn.chg.output, hMn.chg.size, fun k hk _ => hMn.chg.block k hk (fun h => h), hMn.chg.drawn⟩, fun e he => ⟨(hMn.own e he).1, fun b hb => by
        rcases (hMn.own e he).2 b hb with h5 | h5
        · exact h5.elim
        · exact .inr h5⟩, hMn.apart⟩
    · cases hsγ
  · cases hsγ
end
end Go.Eng
namespace Go.Eng
section
variable {G : Type} {P : Program} {n : Nat} {w0 : Ctx} {ops : Array Oper} {base : Slots} {vals : G → List Value} {writes : List Nat} {mem : List Bool → G → Mem}
theorem Steps.opL {Γ : Type} (set : Γ → G → G) (E : G → Mem) (E' : Γ → G → Mem) (X : (Nat → Bool) → G → Mem) (D : List Nat) (s : G → Sem Next) (d : Option Tmp) (v : Γ → G → Value) {i : Nat}
    (hpre : ∀ S γ, S i = false → (∀ e : Nat, (aftAt ops.toList i).contains e = true → S e = true) → (∀ k : Nat, (aftAt ops.toList k).contains i = true → S k = false) → (mem (writes.map S) γ).Perm (E γ ++ X S γ))
    (hpost : ∀ S γ g, S i = false → (∀ e : Nat, (aftAt ops.toList i).contains e = true → S e = true) → (∀ k : Nat, (aftAt ops.toList k).contains i = true → S k = false) → (E' g γ ++ X S γ).Perm (mem (writes.map (upS S i)) (set g γ)))
    (hv : ∀ γ M' w, Sat w0 (E γ ++ M') w → ∃ g w', (s γ).run P w = .ok (.value (v g γ)) w' ∧ Sat w0 (E' g γ ++ M') w')
    (hs : ∀ γ, semAt ops.toList (allS ops.toList base (vals γ)) i = some (s γ, d)) (hval : ∀ γ g, (vals (set g γ))[i]? = some (v g γ))
    (hD : depB ops.toList i D = true) (hmask : ∀ γ g, maskL D 0 (vals (set g γ)) = maskL D 0 (vals γ))
    (h : Steps P w0 ops base vals writes mem (ops.toList.drop (i + 1)) (i + 1)) : Steps P w0 ops base vals writes mem (ops.toList.drop i) i := by
  refine Steps.cons_of (fun o ho S γ w hSi hd hc hMw => ?_) h
  obtain ⟨o', h1, h2, h3, h4⟩ := semAt_get (hs γ)
  rw [ho] at h1
  simp only [Option.some.injEq] at h1
  subst h1
  have hd' : ∀ e : Nat, (aftAt ops.toList i).contains e = true → S e = true := fun e he => hd e (by unfold aftAt at he; rw [ho] at he; simpa using he)
  rw [h2]
  simp only
  unfold GivesK
  obtain ⟨g, w', hr, hM'⟩ := hv γ _ w (hMw.perm (hpre S γ hSi hd' (later_of hSi hc)))
  rw [h3, hr]
  exact ⟨set g γ, agree hD hSi hc (hmask γ g), hval γ g, hM'.perm (hpost S γ g hSi hd' (later_of hSi hc))⟩
end
end Go.Eng
namespace Go.Eng
def QT (Q : Exit → Act → World → Prop) (K : Act → World → Prop) : Exit → Act → World → Prop
  | .normal, a, w => K a w
  | e, a, w => Q e a w
section
variable {P : Program} {ops hd : Array Oper} {Q : Exit → Act → World → Prop} {N : Nat}
theorem wp_QT {o : Oper} {a : Act} {w : World} {K : Act → World → Prop} {X X' : Act → World → Prop} (h : ∀ a w, X a w → X' a w) (hh : o.wp P a w X (QT Q K)) : o.wp P a w X' Q := by
  unfold Oper.wp at *
  generalize (execOp a.eval o).run P w = r at *
  cases r with
  | ok n w' =>
    cases n <;> simp only [Oper.upon] at hh ⊢ <;>
      first
        | exact h _ _ hh
        | exact Calls.mono hh (fun e w'' he => by cases e <;> first | exact h _ _ he | exact he)
        | exact Rows.mono hh (fun _ _ he => h _ _ he)
  | halt x w' => cases x <;> simp only [Oper.upon] at hh ⊢ <;> exact hh
theorem any_more (k : Nat) : ∀ (f : Nat) (l : Array Bool) (a : Act) (w : World), wpAny P .any ops Q f l a w → wpAny P .any ops Q (f + k) l a w
  | 0, l, a, w, h => by
    cases k with
    | zero => exact h
    | succ k => rw [Nat.zero_add]; exact ⟨fun _ => h.2, fun i hi => by rw [h.1] at hi; cases hi⟩
  | f + 1, l, a, w, h => by
    rw [show f + 1 + k = f + k + 1 by omega]
    exact ⟨h.1, fun i hi => wpOp_mono (fun a w h' => any_more k f _ a w h') (h.2 i hi)⟩
def guardsB (N : Nat) (l : List Oper) : Bool := l.all fun o => match o.guard with | some (g, _) => Nat.blt g N | none => true
def lowB (l : List Oper) : Bool := (List.range l.length).all fun j => (aftAt l j).all fun e => Nat.blt e j
def firstN (N m : Nat) : Array Bool := (List.replicate N true ++ List.replicate m false).toArray

/-- Each operation behind number N waits for one from N on. -/
def waitB (ops : Array Oper) (N : Nat) : Bool := (List.range ops.size).all fun t => Nat.ble t N || (List.range t).any fun j => Nat.ble N j && Region.waitsFor .any ops t j
theorem tail_waits' {n : Nat} {listed : Array Bool} (hs : Region.sinkB .any ops n = true) (hc : waitB ops n = true) (inv : HeadInv .any ops n listed) :
    ∀ (d i : Nat), n - i = d → i < n → listed.getD i true = false → ∀ t, n ≤ t → t ∉ Region.ready .any ops listed := by
  intro d
  induction d using Nat.strongRecOn with
  | _ d ih =>
    intro i hd hi hun t ht hr
    obtain ⟨_, ot, hot, hall⟩ := mem_ready.1 hr
    have htlt : t < ops.size := (Array.getElem?_eq_some_iff.1 hot).1
    by_cases htn : t = n
    · subst htn
      have h1 := List.all_eq_true.1 hs i (List.mem_range.2 hi)
      obtain ⟨j, hj, hj2⟩ := List.any_eq_true.1 h1
      simp only [Bool.and_eq_true, decide_eq_true_eq] at hj2
      obtain ⟨oj, hoj, e, he, hb, hon⟩ := Region.waitsFor_spec hj2.2
      have hjle : j ≤ t := by have := List.mem_range.1 hj; omega
      by_cases hjt : j = t
      · subst hjt
        have : oj = ot := Option.some.inj (hoj.symm.trans hot)
        subst this
        have h2 := hall e he hb
        rw [hon, getD_both hun] at h2
        cases h2
      · cases hl : listed.getD j false with
        | true =>
          have h2 := inv.closed j oj hoj hl e he hb
          rw [hon, getD_both hun] at h2
          cases h2
        | false =>
          have hjs : j < listed.size := by rw [inv.size]; omega
          exact ih (t - j) (by omega) j rfl (by omega) (getD_in hjs hl) t (Nat.le_refl _) hr
    · have h1 := List.all_eq_true.1 hc t (List.mem_range.2 htlt)
      simp only [Bool.or_eq_true] at h1
      rcases h1 with h1 | h1
      · have := Nat.le_of_ble_eq_true h1; omega
      · obtain ⟨j, hj, hj2⟩ := List.any_eq_true.1 h1
        simp only [Bool.and_eq_true] at hj2
        have hnj := Nat.le_of_ble_eq_true hj2.1
        have hjt := List.mem_range.1 hj
        obtain ⟨o', ho', e, he, hb, hon⟩ := Region.waitsFor_spec hj2.2
        have : o' = ot := Option.some.inj (ho'.symm.trans hot)
        subst this
        have h2 := hall e he hb
        rw [hon, getD_both (inv.tail j hnj (by omega))] at h2
        cases h2

theorem any_head (he : hd.toList = ops.toList.take N) (hn : N < ops.size) (hs : Region.sinkB .any ops N = true) (hc : waitB ops N = true) (hg : guardsB N hd.toList = true) (ho : lowB hd.toList = true)
    {K : Act → World → Prop} (hK : ∀ a w, K a w → wpAny P .any ops Q (ops.size - N) (firstN N (ops.size - N)) a w) :
    ∀ (f : Nat) (l l' : Array Bool) (a : Act) (w : World), HeadInv .any ops N l → l'.size = N → (∀ i d, i < N → l'.getD i d = l.getD i d) →
      wpAny P .any hd (QT Q K) f l' a w → wpAny P .any ops Q (f + (ops.size - N)) l a w := by
  have hsz : hd.size = N := by rw [← Array.length_toList, he, List.length_take, Array.length_toList]; omega
  have hat : ∀ i, i < N → hd[i]? = ops[i]? := fun i hi => by
    rw [← Array.getElem?_toList, ← Array.getElem?_toList, he, List.getElem?_take_of_lt hi]
  have hlow : ∀ i o, hd[i]? = some o → ∀ e ∈ o.after, Region.binds .any e = true → e.on < i := fun i o hi e he' hb => by
    have hi' : hd.toList[i]? = some o := by simpa using hi
    have := List.all_eq_true.1 ho i (List.mem_range.2 (List.getElem?_eq_some_iff.1 hi').1)
    unfold aftAt at this
    rw [hi'] at this
    exact Nat.le_of_ble_eq_true (List.all_eq_true.1 this e.on (List.mem_map.2 ⟨e, List.mem_filter.2 ⟨by simpa using he', hb⟩, rfl⟩))
  have fin : ∀ (l l' : Array Bool) (a : Act) (w : World), HeadInv .any ops N l → l'.size = N → (∀ i d, i < N → l'.getD i d = l.getD i d) → Region.ready .any hd l' = [] →
      K a w → wpAny P .any ops Q (ops.size - N) l a w := by
    intro l l' a w inv h1 h2 h3 h4
    have all : ∀ i, i < N → l.getD i false = true := by
      intro i
      induction i using Nat.strongRecOn with
      | _ i ih =>
        intro hi
        cases hl : l.getD i false with
        | true => rfl
        | false =>
          exfalso
          have hr : i ∈ Region.ready .any hd l' := mem_ready.2 ⟨by rw [h2 i true hi]; exact getD_in (by rw [inv.size]; omega) hl, _, Array.getElem?_eq_getElem (by omega), fun e he' hb => by
            have := hlow i _ (Array.getElem?_eq_getElem (by omega)) e he' hb
            rw [h2 _ _ (by omega)]; exact ih _ this (by omega)⟩
          rw [h3] at hr; cases hr
    have hl : l = firstN N (ops.size - N) := by
      apply Array.ext_getElem?
      intro i
      unfold firstN
      refine Eq.trans ?_ List.getElem?_toArray.symm
      by_cases h5 : i < N
      · rw [List.getElem?_append_left (by simpa using h5), List.getElem?_replicate, if_pos h5]
        have := all i h5
        have h6 : i < l.size := by rw [inv.size]; omega
        rw [Array.getD_eq_getD_getElem?, Array.getElem?_eq_getElem h6] at this
        rw [Array.getElem?_eq_getElem h6]; simpa using this
      · rw [List.getElem?_append_right (by simpa using h5), List.length_replicate, List.getElem?_replicate]
        by_cases h6 : i < ops.size
        · rw [if_pos (by omega)]
          have := inv.tail i (by omega) h6
          have h7 : i < l.size := by rw [inv.size]; omega
          rw [Array.getD_eq_getD_getElem?, Array.getElem?_eq_getElem h7] at this
          rw [Array.getElem?_eq_getElem h7]; simpa using this
        · rw [if_neg (by omega), Array.getElem?_eq_none (by rw [inv.size]; omega)]
    rw [hl]
    exact hK a w h4
  intro f
  induction f with
  | zero => intro l l' a w inv h1 h2 h; rw [Nat.zero_add]; exact fin l l' a w inv h1 h2 h.1 h.2
  | succ f ih =>
    intro l l' a w inv h1 h2 h
    by_cases hr : Region.ready .any hd l' = []
    · rw [Nat.add_comm]; exact any_more _ _ _ _ _ (fin l l' a w inv h1 h2 hr (h.1 hr))
    · rw [show f + 1 + (ops.size - N) = f + (ops.size - N) + 1 by omega]
      obtain ⟨j, hj⟩ := List.exists_mem_of_ne_nil _ hr
      obtain ⟨hju, oj, hoj, hja⟩ := mem_ready.1 hj
      have hjN : j < N := by have := (Array.getElem?_eq_some_iff.1 hoj).1; omega
      have up : ∀ i, i ∈ Region.ready .any hd l' → i < N → i ∈ Region.ready .any ops l := fun i hi hiN => by
        obtain ⟨h3, o, h4, h5⟩ := mem_ready.1 hi
        exact mem_ready.2 ⟨by rw [← h2 i true hiN]; exact h3, o, by rw [← hat i hiN]; exact h4, fun e he' hb => by have := hlow i o h4 e he' hb; rw [← h2 _ _ (by omega)]; exact h5 e he' hb⟩
      refine ⟨fun h0 => (by have := up j hj hjN; rw [h0] at this; cases this), fun i hi => ?_⟩
      have hiN : i < N := Nat.lt_of_not_le fun hle => tail_waits' hs hc inv _ j rfl hjN (by rw [← h2 j true hjN]; exact hju) i hle hi
      obtain ⟨hiu, o, hio, hia⟩ := mem_ready.1 hi
      have hio' : hd[i]? = some o := by rw [hat i hiN]; exact hio
      have hi' : i ∈ Region.ready .any hd l' := mem_ready.2 ⟨by rw [h2 i true hiN]; exact hiu, o, hio', fun e he' hb => by have := hlow i o hio' e he' hb; rw [h2 _ _ (by omega)]; exact hia e he' hb⟩
      have hw := h.2 i hi'
      have next : ∀ a w, wpAny P .any hd (QT Q K) f (l'.setIfInBounds i true) a w → wpAny P .any ops Q (f + (ops.size - N)) (l.setIfInBounds i true) a w := fun a w h' =>
        ih _ _ a w (inv.set hi hiN) (by rw [Array.size_setIfInBounds]; exact h1) (fun k d hk => by
          by_cases e : k = i
          · subst e; simp [Array.getD_eq_getD_getElem?, h1, hk, inv.size, show k < ops.size by omega]
          · rw [getD_set_ne d (Ne.symm e), getD_set_ne d (Ne.symm e)]; exact h2 k d hk) h'
      have hy : Region.wanted o (yielded hd a.tmps) = Region.wanted o (yielded ops a.tmps) := by
        have hgo := List.all_eq_true.1 hg o (List.mem_of_getElem? (by simpa using hio'))
        unfold Region.wanted
        cases hgd : o.guard with
        | none => rfl
        | some p =>
          obtain ⟨g, b⟩ := p
          rw [hgd] at hgo
          have : g < N := Nat.le_of_ble_eq_true hgo
          simp only
          unfold yielded
          rw [hat g this]
      unfold wpOp at hw ⊢
      rw [hio'] at hw
      rw [hio]
      simp only at hw ⊢
      rw [hy] at hw
      split
      · rename_i hw1
        rw [if_pos hw1] at hw
        rcases hw with hw | hw
        · exact .inl (wp_QT next hw)
        · exact .inr hw
      · rename_i hw1
        rw [if_neg hw1] at hw
        exact next _ _ hw
end

section
variable {G : Type} {P : Program} {n : Nat} {w0 : Ctx} {ops : Array Oper} {base : Slots} {vals : G → List Value} {writes : List Nat} {mem : List Bool → G → Mem}
/-- What holds when the first m operations are done. -/
def QM (P : Program) (ops : Array Oper) (Q : Exit → Act → World → Prop) (m : Nat) : Exit → Act → World → Prop := QT Q fun a w => wpAny P .any ops Q (ops.size - m) (firstN m (ops.size - m)) a w
def upto (ops : Array Oper) (m : Nat) : Array Oper := (ops.toList.take m).toArray
def headB (ops : Array Oper) (N : Nat) : Bool := Nat.blt N ops.size && (Region.sinkB .any ops N && (waitB ops N && (guardsB N (upto ops N).toList && (guardsB (N + 1) (upto ops (N + 1)).toList && (decide (Region.ready .any ops (firstN N (ops.size - N)) = [N]) && decide ((firstN N (ops.size - N)).setIfInBounds N true = firstN (N + 1) (ops.size - (N + 1))))))))
def tailB (ops : Array Oper) (m : Nat) : Bool := Region.noSelect ops && Region.lexFrom .any ops (ops.size - m) m (firstN m (ops.size - m))
theorem getD_firstN {m k j : Nat} (h : j < m) : (firstN m k).getD j false = true := by
  unfold firstN
  rw [Array.getD_eq_getD_getElem?, List.getElem?_toArray, List.getElem?_append_left (by simpa using h), List.getElem?_replicate, if_pos h]; rfl
/-- From the operation that comes alone on: the others behind it, which only read. -/
theorem TL.mid {F : Slots} {M : Mem} {Q : Exit → Act → World → Prop} {hd : Array Oper} {m : Nat} (hi : Nat.ble hd.toList.length m = true) (hm : Nat.ble m ops.size = true) (hB : tailB ops m = true)
    (h : TG P n w0 ops (fun a' => ∀ done w', (∀ j, j < ops.size → done.getD j false = true) → MG w0 M M 0 done w' → Q .normal a' w') 0 M M M m F) : TL P n w0 hd (QM P ops Q m) m F M := by
  intro a w hF hM
  rw [List.drop_eq_nil_of_le (Nat.le_of_ble_eq_true hi)]
  have hms := Nat.le_of_ble_eq_true hm
  unfold tailB at hB
  rw [Bool.and_eq_true] at hB
  have hdl : (ops.toList.drop m).length = ops.size - m := by simp
  have H := anyG_lex (C := MG w0 M M 0) (md := .any) hB.1 (ops.toList.drop m) m (firstN m (ops.size - m)) a (fun j => by rw [List.getElem?_drop, Array.getElem?_toList]) (by unfold firstN; simp; omega) (fun j hj => getD_firstN hj) (by rw [hdl]; exact hB.2) (h (List.Sublist.refl _) (List.Sublist.refl _) a hF)
  have := any_of_anyG (C := MG w0 M M 0) (Q := Q) (by
    rintro done a' w' hC' ⟨⟨h1, h2⟩, h3⟩
    exact ⟨h1, h3 done w' h2 hC'⟩) _ _ a w (by unfold MG; cases (firstN m (ops.size - m)).getD 0 false <;> exact hM) H
  rw [hdl] at this
  exact this
theorem TC.planT {F : Slots} {M : Mem} {Q : Exit → Act → World → Prop} {id : Nat} (N : Nat) (γ0 : G) (Fe : G → Slots) (hm : P.follows .mixedOrders = true) (hb : pick (base.map Prod.fst) F = some base) (hB : planB (upto ops N).toList (base.map Prod.fst) = true) (hO : orderB (upto ops N).toList writes = true)
    (hD : ((upto ops N).toList.all fun o => match o.dst with | some d => Nat.blt d n | none => true) = true) (hl : ∀ γ, Nat.beq (vals γ).length (upto ops N).toList.length = true)
    (h0 : ∀ w, Sat w0 M w → Sat w0 (mem (writes.map fun _ => false) γ0) w) (he : ∀ γ, pick ((Fe γ).map Prod.fst) (zipD (upto ops N).toList (vals γ) ++ base) = some (Fe γ))
    (hN : headB ops N = true)
    (hs : Steps P w0 (upto ops N) base vals writes mem ((upto ops N).toList.drop 0) 0) (k : ∀ γ, TL P n w0 (upto ops (N + 1)) (QM P ops Q (N + 1)) N (Fe γ) (mem (writes.map fun _ => true) γ)) : TC P n w0 Q (.region id ops true) F M := by
  intro a w hF hM
  unfold headB at hN
  simp only [Bool.and_eq_true, decide_eq_true_eq] at hN
  obtain ⟨n1, n2, n3, n4, n5, n6, n7⟩ := hN
  have hn : N < ops.size := Nat.le_of_ble_eq_true n1
  have hT : ∀ m, (upto ops m).toList = ops.toList.take m := fun m => by unfold upto; simp
  have hsz : (upto ops N).size = N := by rw [← Array.length_toList, hT, List.length_take, Array.length_toList]; omega
  refine wp_region_any hm ?_
  have h1 := plan_wp (Q := QT Q (wpList P (upto ops (N + 1)) (QM P ops Q (N + 1)) ((upto ops (N + 1)).toList.drop N))) γ0 Fe hb hB hO hD hl h0 he hs (fun γ a' w' hF' hM' => k γ a' w' hF' hM') a w hF hM
  have hO' := hO
  unfold orderB at hO'
  rw [Bool.and_eq_true] at hO'
  obtain ⟨o, ho⟩ : ∃ o, ops[N]? = some o := ⟨_, Array.getElem?_eq_getElem hn⟩
  have ho2 : (upto ops (N + 1)).toList.drop N = [o] := by
    rw [hT, List.drop_take, show N + 1 - N = 1 by omega]
    have : ops.toList.drop N = o :: ops.toList.drop (N + 1) := by
      rw [← Array.getElem?_toList] at ho
      exact drop_at ho
    rw [this]; rfl
  have hfin : ∀ a w, wpList P (upto ops (N + 1)) (QM P ops Q (N + 1)) ((upto ops (N + 1)).toList.drop N) a w → wpAny P .any ops Q (ops.size - N) (firstN N (ops.size - N)) a w := by
    intro a w h
    rw [ho2] at h
    have e : ops.size - N = ops.size - (N + 1) + 1 := by omega
    conv => arg 5; rw [e]
    refine ⟨fun h0 => (by rw [n6] at h0; cases h0), fun i hi => ?_⟩
    rw [n6] at hi
    have hiN : i = N := List.mem_singleton.1 hi
    subst hiN
    rw [n7]
    have hy : Region.wanted o (yielded (upto ops (i + 1)) a.tmps) = Region.wanted o (yielded ops a.tmps) := by
      have hgo := List.all_eq_true.1 n5 o (List.mem_of_getElem? (i := i) (by rw [hT, List.getElem?_take_of_lt (by omega), Array.getElem?_toList]; exact ho))
      unfold Region.wanted
      cases hgd : o.guard with
      | none => rfl
      | some p =>
        obtain ⟨g, b⟩ := p
        rw [hgd] at hgo
        have hg : g < i + 1 := Nat.le_of_ble_eq_true hgo
        simp only
        unfold yielded
        have : (upto ops (i + 1))[g]? = ops[g]? := by rw [← Array.getElem?_toList, ← Array.getElem?_toList, hT, List.getElem?_take_of_lt hg]
        rw [this]
    unfold wpOp
    rw [ho]
    simp only [wpList, hy] at h ⊢
    split at h
    · rename_i hw1
      rw [if_pos hw1]
      rcases h with h | h
      · exact .inl (wp_QT (fun a w h => h) h)
      · exact .inr h
    · rename_i hw1
      rw [if_neg hw1]
      exact h
  have h2 := any_head (Q := Q) (hT N) hn n2 n3 n4 hO'.1 hfin (upto ops N).size (Array.replicate ops.size false) (Array.replicate (upto ops N).size false) a { w with drawn := w.drawn + 1 }
    ⟨by simp, fun j oj _ hl => (by rw [getD_replicate_false] at hl; cases hl), fun t _ ht => getD_in (by simpa using ht) (getD_replicate_false _ _)⟩ (by simpa using hsz)
    (fun i d hi => by simp [Array.getD_eq_getD_getElem?, hsz, hi, show i < ops.size by omega]) h1
  rwa [show (upto ops N).size + (ops.size - N) = ops.size by omega] at h2
end
end Go.Eng
