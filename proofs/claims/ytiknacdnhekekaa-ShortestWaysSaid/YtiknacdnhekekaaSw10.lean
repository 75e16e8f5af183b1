/- Lemmas toward the given statement (part 10 of 16): Mw DijL WayL. Each theorem states its own conditions; nothing is assumed beyond them. -/
import Derived.Test.YtiknacdnhekekaaSw09
section
namespace Go.Sky
open Go Go.Eng Go.Proofs
open Go.Srt
def shortest_net_way_L1 (n : net) (from_ : Int) (barred : Int) (r1 : List Bool) (r2 : List Int) : List Int → Nat → Int → Int
  | [], _, best => best
  | x :: xs, k, best => cond (x != barred) (
      cond (!(((r1.set from_.toNat true)[x.toNat]?.getD false))) (
        cond (decide ((r2[x.toNat]?.getD 0) ≥ 0)) (
          cond (decide (best < 0)) (
            shortest_net_way_L1 n from_ barred r1 r2 xs (k + 1) (w64 (((n.long[from_.toNat]?.getD [])[k]?.getD 0) + (r2[x.toNat]?.getD 0)))) (
            cond (decide ((w64 (((n.long[from_.toNat]?.getD [])[k]?.getD 0) + (r2[x.toNat]?.getD 0))) < best)) (
              shortest_net_way_L1 n from_ barred r1 r2 xs (k + 1) (w64 (((n.long[from_.toNat]?.getD [])[k]?.getD 0) + (r2[x.toNat]?.getD 0)))) (
              shortest_net_way_L1 n from_ barred r1 r2 xs (k + 1) best))) (
          shortest_net_way_L1 n from_ barred r1 r2 xs (k + 1) best)) (
        shortest_net_way_L1 n from_ barred r1 r2 xs (k + 1) best)) (
      shortest_net_way_L1 n from_ barred r1 r2 xs (k + 1) best)
def shortest_net_way_L3 (n : net) (from_ : Int) (barred : Int) (r1 : List Bool) (r2 : List Int) : List Int → Nat → Int → Int → (Int × Int)
  | [], _, left_2, at__2 => (left_2, at__2)
  | x_2 :: xs, k_2, left_2, at__2 => cond ((at__2 != from_) || (x_2 != barred)) (
      cond (!(((r1.set from_.toNat true)[x_2.toNat]?.getD false))) (
        cond (decide ((r2[x_2.toNat]?.getD 0) ≥ 0)) (
          cond ((w64 (((n.long[at__2.toNat]?.getD [])[k_2]?.getD 0) + (r2[x_2.toNat]?.getD 0))) == left_2) (
            ((r2[x_2.toNat]?.getD 0), x_2)) (
            shortest_net_way_L3 n from_ barred r1 r2 xs (k_2 + 1) left_2 at__2)) (
          shortest_net_way_L3 n from_ barred r1 r2 xs (k_2 + 1) left_2 at__2)) (
        shortest_net_way_L3 n from_ barred r1 r2 xs (k_2 + 1) left_2 at__2)) (
      shortest_net_way_L3 n from_ barred r1 r2 xs (k_2 + 1) left_2 at__2)
def shortest_net_way_L2 (n : net) (from_ : Int) (to : Int) (barred : Int) (r1 : List Bool) (r2 : List Int) : Nat → (List Int) → Int → Int → Option (List Int)
  | 0, _, _, _ => none
  | m + 1, out, left, at_ => cond (at_ != to) (
      bindv (shortest_net_way_L3 n from_ barred r1 r2 (n.links[at_.toNat]?.getD []) 0 left at_) (fun (left_3, at__3) =>
        shortest_net_way_L2 n from_ to barred r1 r2 m (out ++ ([at__3])) left_3 at__3)) (
      some (out))
def shortest_net_way (n : net) (from_ : Int) (to : Int) (closed : List Bool) (barred : Int) : List Int × Int × Bool :=
  cond (from_ == to) (
    ([from_], 0, true)) (
    let r1 := slices_Clone_bool_bool closed
    let r2 := shortest_net_lengths n to (r1.set from_.toNat true)
    bindv (shortest_net_way_L1 n from_ barred r1 r2 (n.links[from_.toNat]?.getD []) 0 (-1)) (fun best_2 =>
      cond (decide (best_2 < 0)) (
        ([], 0, false)) (
        bindv ((shortest_net_way_L2 n from_ to barred r1 r2 (best_2.toNat + 2) ([from_] : List Int) best_2 from_).getD default) (fun out_2 =>
          (out_2, best_2, true)))))
end Go.Sky
end
section
namespace Go.Sky
open Go Go.Eng
abbrev at_ (l : List Int) (v : Int) : Int := l[v.toNat]?.getD 0
def arc (n : net) (k : Int) (i : Nat) (m d : Int) : Prop := (lk n k.toNat)[i]? = some m ∧ (lg n k.toNat)[i]? = some d
abbrev shut_ (s : List Bool) (v : Int) : Bool := s[v.toNat]?.getD false
inductive Tr (n : net) (s : List Bool) (to : Int) : Int → Int → Prop
  | base : Tr n s to to 0
  | step {k : Int} {i : Nat} {v d e : Int} : Tr n s to k e → arc n k i v d → shut_ s v = false → Tr n s to v (e + d)
def In (n : net) (v : Int) : Prop := 0 ≤ v ∧ v < (n.names.length : Int)
theorem arc_in {n : net} (hN : NetOk n) {k : Int} (hk : In n k) {i : Nat} {m d : Int} (h : arc n k i m d) : In n m ∧ 1 ≤ d ∧ d ≤ 3000000 ∧ i < (lk n k.toNat).length := by
  have hk1 := hk.1
  have hk2 := hk.2
  have hkn : k.toNat < n.names.length := by omega
  exact ⟨hN.rng _ hkn m (List.mem_of_getElem? h.1), (hN.pos _ hkn d (List.mem_of_getElem? h.2)).1, (hN.pos _ hkn d (List.mem_of_getElem? h.2)).2, (List.getElem?_eq_some_iff.1 h.1).1⟩
theorem tr_in {n : net} (hN : NetOk n) {s : List Bool} {to : Int} (ht : In n to) {v d : Int} (h : Tr n s to v d) : In n v ∧ 0 ≤ d := by
  induction h with
  | base => exact ⟨ht, Int.le_refl _⟩
  | step _ ha _ ih =>
    have := arc_in hN ih.1 ha
    exact ⟨this.1, by have := ih.2; omega⟩
theorem at_set {l : List Int} {v w d : Int} (hv : 0 ≤ v) (hvl : v.toNat < l.length) (hw : 0 ≤ w) : at_ (l.set v.toNat d) w = if w = v then d else at_ l w := by
  unfold at_
  by_cases h : w = v
  · subst h
    rw [if_pos rfl, List.getElem?_set_self hvl]; rfl
  · rw [if_neg h, List.getElem?_set_ne (by omega)]
def Cov (out : List Int) (hp : List item) (m b : Int) : Prop := (0 ≤ at_ out m ∧ at_ out m ≤ b) ∨ ∃ y ∈ hp, y.value = m ∧ y.priority ≤ b
theorem Cov.mem {out : List Int} {hp hp' : List item} {m b : Int} (h : Cov out hp m b) (hs : ∀ y ∈ hp, y ∈ hp') : Cov out hp' m b := by
  rcases h with h | ⟨y, h1, h2⟩
  · exact .inl h
  · exact .inr ⟨y, hs y h1, h2⟩
structure Dj (n : net) (s : List Bool) (to : Int) (out : List Int) (next : Int) (hp : List item) : Prop where
  inv : LenInv n out next hp
  tr : ∀ v, In n v → 0 ≤ at_ out v → Tr n s to v (at_ out v)
  it : ∀ y ∈ hp, Tr n s to y.value y.priority
  mono : ∀ v, In n v → 0 ≤ at_ out v → ∀ y ∈ hp, at_ out v ≤ y.priority
  start : Cov out hp to 0
  bd : ∀ v, In n v → at_ out v ≤ 21000000
  cov : ∀ u i m d, In n u → 0 ≤ at_ out u → arc n u i m d → shut_ s m = false → Cov out hp m (at_ out u + d)
structure DjIn (n : net) (s : List Bool) (to v : Int) (out : List Int) (k : Nat) (next : Int) (hp : List item) : Prop where
  inv : LenIn n out k next hp
  tr : ∀ u, In n u → 0 ≤ at_ out u → Tr n s to u (at_ out u)
  it : ∀ y ∈ hp, Tr n s to y.value y.priority
  mono : ∀ u, In n u → 0 ≤ at_ out u → ∀ y ∈ hp, at_ out u ≤ y.priority
  top : ∀ u, In n u → 0 ≤ at_ out u → at_ out u ≤ at_ out v
  known : 0 ≤ at_ out v
  start : Cov out hp to 0
  bd : ∀ v, In n v → at_ out v ≤ 21000000
  cov : ∀ u i m d, In n u → 0 ≤ at_ out u → arc n u i m d → shut_ s m = false → (u ≠ v ∨ i < k) → Cov out hp m (at_ out u + d)
theorem Dj.again {n : net} {s : List Bool} {to : Int} {out : List Int} {next : Int} {hp : List item} (h : Dj n s to out next hp) {x : item} {ys : List item} (p : hp.Perm (x :: ys)) (hinv : LenInv n out next ys) (hx : In n x.value) (hk : 0 ≤ at_ out x.value) : Dj n s to out next ys := by
  have low := h.mono x.value hx hk x (p.mem_iff.2 (List.mem_cons_self ..))
  have sub : ∀ y ∈ ys, y ∈ hp := fun y hy => p.mem_iff.2 (List.mem_cons_of_mem _ hy)
  have cv : ∀ m b, Cov out hp m b → Cov out ys m b := fun m b hc => by
    rcases hc with hc | ⟨y, h1, h2, h3⟩
    · exact .inl hc
    · rcases List.mem_cons.1 (p.mem_iff.1 h1) with rfl | h1
      · subst h2
        exact .inl ⟨hk, by omega⟩
      · exact .inr ⟨y, h1, h2, h3⟩
  exact ⟨hinv, h.tr, fun y hy => h.it y (sub y hy), fun v hv h0 y hy => h.mono v hv h0 y (sub y hy), cv _ _ h.start, h.bd, fun u i m d hu h0 ha hs => cv _ _ (h.cov u i m d hu h0 ha hs)⟩
theorem Dj.begin {n : net} (hN : NetOk n) {s : List Bool} {to : Int} (ht : In n to) {out : List Int} {next : Int} {hp : List item} (h : Dj n s to out next hp) {x : item} {ys : List item} (p : hp.Perm (x :: ys)) (hle : ∀ y ∈ ys, x.priority ≤ y.priority) (hx : In n x.value) (hp0 : 0 ≤ x.priority) (hneg : at_ out x.value < 0)
    (hinv : LenIn n (out.set x.value.toNat x.priority) 0 next ys) : DjIn n s to x.value (out.set x.value.toNat x.priority) 0 next ys := by
  have hx1 := hx.1
  have hx2 := hx.2
  have hlen := h.inv.len
  have hvl : x.value.toNat < out.length := by omega
  have xm : x ∈ hp := p.mem_iff.2 (List.mem_cons_self ..)
  have sub : ∀ y ∈ ys, y ∈ hp := fun y hy => p.mem_iff.2 (List.mem_cons_of_mem _ hy)
  have self : at_ (out.set x.value.toNat x.priority) x.value = x.priority := by rw [at_set hx1 hvl hx1, if_pos rfl]
  have oth : ∀ u, In n u → u ≠ x.value → at_ (out.set x.value.toNat x.priority) u = at_ out u := fun u hu hne => by rw [at_set hx1 hvl hu.1, if_neg hne]
  have cv : ∀ m b, In n m → Cov out hp m b → Cov (out.set x.value.toNat x.priority) ys m b := fun m b hm hc => by
    by_cases hmv : m = x.value
    · subst hmv
      rcases hc with hc | ⟨y, h1, h2, h3⟩
      · exact absurd hc.1 (by omega)
      · refine .inl ⟨by rw [self]; exact hp0, ?_⟩
        rw [self]
        rcases List.mem_cons.1 (p.mem_iff.1 h1) with rfl | h1
        · exact h3
        · have := hle y h1; omega
    · rcases hc with hc | ⟨y, h1, h2, h3⟩
      · exact .inl (by rw [oth m hm hmv]; exact hc)
      · rcases List.mem_cons.1 (p.mem_iff.1 h1) with rfl | h1
        · exact absurd h2.symm hmv
        · exact .inr ⟨y, h1, h2, h3⟩
  refine ⟨hinv, fun u hu h0 => ?_, fun y hy => h.it y (sub y hy), fun u hu h0 y hy => ?_, fun u hu h0 => ?_, by rw [self]; exact hp0, cv _ _ ht h.start, fun u hu => ?_, fun u i m d hu h0 ha hs hor => ?_⟩
  · by_cases hne : u = x.value
    · subst hne; rw [self]; exact h.it x xm
    · rw [oth u hu hne] at h0 ⊢; exact h.tr u hu h0
  · by_cases hne : u = x.value
    · subst hne; rw [self]; exact hle y hy
    · rw [oth u hu hne] at h0 ⊢; exact h.mono u hu h0 y (sub y hy)
  · rw [self]
    by_cases hne : u = x.value
    · subst hne; rw [self]; exact Int.le_refl _
    · rw [oth u hu hne] at h0 ⊢; exact h.mono u hu h0 x xm
  · by_cases hne : u = x.value
    · subst hne
      rw [self]
      have := (h.inv.it x xm).2.2.2
      have := cnt_le out
      have := hN.n7
      omega
    · rw [oth u hu hne]; exact h.bd u hu
  · by_cases hne : u = x.value
    · subst hne
      rcases hor with hor | hor
      · exact absurd rfl hor
      · omega
    · rw [oth u hu hne] at h0 ⊢
      exact cv m _ (arc_in hN hu ha).1 (h.cov u i m d hu h0 ha hs)
theorem DjIn.finish {n : net} (hN : NetOk n) {s : List Bool} {to v : Int} {out : List Int} {k : Nat} {next : Int} {hp : List item} (h : DjIn n s to v out k next hp) (hv : In n v) (hk : k = (lk n v.toNat).length) : Dj n s to out next hp := by
  have hv1 := hv.1
  have hv2 := hv.2
  have hrow := hN.row v.toNat (by omega)
  exact ⟨h.inv.done (by omega), h.tr, h.it, h.mono, h.start, h.bd, fun u i m d hu h0 ha hs => h.cov u i m d hu h0 ha hs (by
    by_cases hne : u = v
    · right; subst hne; rw [hk]; exact (arc_in hN hu ha).2.2.2
    · exact .inl hne)⟩
theorem DjIn.skip {n : net} {s : List Bool} {to v : Int} {out : List Int} {k : Nat} {next : Int} {hp : List item} (h : DjIn n s to v out k next hp) {m d : Int} (ha : arc n v k m d) (hd : 1 ≤ d) (hm : In n m) (hq : 0 ≤ at_ out m ∨ shut_ s m = true) : DjIn n s to v out (k + 1) next hp := by
  refine ⟨h.inv.skip, h.tr, h.it, h.mono, h.top, h.known, h.start, h.bd, fun u i m2 d2 hu h0 ha2 hs hor => ?_⟩
  by_cases hne : u = v ∧ i = k
  · obtain ⟨rfl, rfl⟩ := hne
    obtain rfl : m2 = m := Option.some.inj (ha2.1.symm.trans ha.1)
    obtain rfl : d2 = d := Option.some.inj (ha2.2.symm.trans ha.2)
    rcases hq with hq | hq
    · exact .inl ⟨hq, by have := h.top m2 hm hq; omega⟩
    · rw [hq] at hs; cases hs
  · exact h.cov u i m2 d2 hu h0 ha2 hs (by
      by_cases hu2 : u = v
      · right; have : i ≠ k := fun e => hne ⟨hu2, e⟩; rcases hor with hor | hor
        · exact absurd hu2 hor
        · omega
      · exact .inl hu2)
theorem DjIn.push {n : net} (hN : NetOk n) {s : List Bool} {to v : Int} {out : List Int} {k : Nat} {next : Int} {hp : List item} (h : DjIn n s to v out k next hp) (hv : In n v) {m d : Int} (ha : arc n v k m d) (hs : shut_ s m = false) (hb : 0 ≤ at_ out v + d ∧ at_ out v + d ≤ 3000000 * (cnt out : Int)) :
    DjIn n s to v out (k + 1) (heapq_Queue_int_Push ⟨hp, next⟩ (at_ out v + d) m).next (heapq_Queue_int_Push ⟨hp, next⟩ (at_ out v + d) m).heap := by
  have ai := arc_in hN hv ha
  have hrow := hN.row v.toNat (by have := hv.1; have := hv.2; omega)
  have hk : k < 32 := by omega
  have hsm := h.inv.small hN (by omega)
  obtain ⟨_, p, _⟩ := push_is (q := ⟨hp, next⟩) (p := at_ out v + d) (v := m) hsm.1 hsm.2 h.inv.ord
  have hinv := (h.inv.push hN hk ai.1 hb).1
  have hmem : ∀ y, y ∈ (heapq_Queue_int_Push ⟨hp, next⟩ (at_ out v + d) m).heap ↔ y ∈ hp ∨ y = ⟨at_ out v + d, next, m⟩ := fun y => by
    rw [p.mem_iff, List.mem_append, List.mem_singleton]
  generalize heapq_Queue_int_Push ⟨hp, next⟩ (at_ out v + d) m = q at hinv hmem
  have cv : ∀ m2 b, Cov out hp m2 b → Cov out q.heap m2 b := fun m2 b hc => hc.mem fun y hy => (hmem y).2 (.inl hy)
  refine ⟨hinv, h.tr, fun y hy => ?_, fun u hu h0 y hy => ?_, h.top, h.known, cv _ _ h.start, h.bd, fun u i m2 d2 hu h0 ha2 hs2 hor => ?_⟩
  · rcases (hmem y).1 hy with hy | rfl
    · exact h.it y hy
    · exact .step (h.tr v hv h.known) ha hs
  · rcases (hmem y).1 hy with hy | rfl
    · exact h.mono u hu h0 y hy
    · have := h.top u hu h0
      show at_ out u ≤ at_ out v + d
      omega
  · by_cases hne : u = v ∧ i = k
    · obtain ⟨rfl, rfl⟩ := hne
      obtain rfl : m2 = m := Option.some.inj (ha2.1.symm.trans ha.1)
      obtain rfl : d2 = d := Option.some.inj (ha2.2.symm.trans ha.2)
      exact .inr ⟨⟨at_ out u + d2, next, m2⟩, (hmem _).2 (.inr rfl), rfl, Int.le_refl _⟩
    · exact cv _ _ (h.cov u i m2 d2 hu h0 ha2 hs2 (by
        by_cases hu2 : u = v
        · right; have : i ≠ k := fun e => hne ⟨hu2, e⟩; rcases hor with hor | hor
          · exact absurd hu2 hor
          · omega
        · exact .inl hu2))
theorem dj_in {n : net} (hN : NetOk n) {s : List Bool} {to : Int} {out : List Int} {r5 : Int × Int × Bool × Queue} (hm : LenMid n out r5) (hn : decide (out[r5.2.1.toNat]?.getD 0 ≥ 0) = false) :
    ∀ (xs : List Int) (k : Nat) (next : Int) (hp : List item), (lk n r5.2.1.toNat).drop k = xs → DjIn n s to r5.2.1 (out.set r5.2.1.toNat r5.1) k next hp →
      DjIn n s to r5.2.1 (out.set r5.2.1.toNat r5.1) (k + xs.length) (shortest_net_lengths_L2 n s out r5 xs k next hp).1 (shortest_net_lengths_L2 n s out r5 xs k next hp).2
  | [], k, next, hp, _, h => h
  | x :: xs, k, next, hp, hd, h => by
    have v0 := hm.v0
    have v1 := hm.v1
    have hv : In n r5.2.1 := ⟨v0, v1⟩
    have hl := hm.inv.len
    have hrow := hN.row r5.2.1.toNat (by omega)
    have hlt : k < (lk n r5.2.1.toNat).length := by
      rcases Nat.lt_or_ge k (lk n r5.2.1.toNat).length with h | h
      · exact h
      · rw [List.drop_of_length_le h] at hd; cases hd
    have d1 : (lk n r5.2.1.toNat).drop (k + 1) = xs := by rw [← List.drop_drop, hd]; rfl
    have hx : (lk n r5.2.1.toNat)[k]? = some x := by
      have : ((lk n r5.2.1.toNat).drop k)[0]? = some x := by rw [hd]; rfl
      rwa [List.getElem?_drop, Nat.add_zero] at this
    obtain ⟨d, hdd⟩ : ∃ d, (lg n r5.2.1.toNat)[k]? = some d := ⟨_, List.getElem?_eq_getElem (by omega)⟩
    have ha : arc n r5.2.1 k x d := ⟨hx, hdd⟩
    have ai := arc_in hN hv ha
    have far := hm.far hN hn hlt
    have self : at_ (out.set r5.2.1.toNat r5.1) r5.2.1 = r5.1 := by rw [at_set v0 (by omega) v0, if_pos rfl]
    have e1 : (lg n r5.2.1.toNat)[k]?.getD 0 = d := by rw [hdd]; rfl
    rw [e1] at far
    rw [List.length_cons, show k + (xs.length + 1) = k + 1 + xs.length by omega]
    unfold shortest_net_lengths_L2
    cases hc : decide (((out.set r5.2.1.toNat r5.1)[x.toNat]?.getD 0) < 0) with
    | false =>
      rw [cond_false]
      exact dj_in hN hm hn xs (k + 1) next hp d1 (h.skip ha ai.2.1 ai.1 (.inl (by have := of_decide_eq_false hc; show 0 ≤ (out.set r5.2.1.toNat r5.1)[x.toNat]?.getD 0; omega)))
    | true =>
      rw [cond_true]
      cases hsx : (s[x.toNat]?.getD false) with
      | true =>
        rw [Bool.not_true, cond_false]
        exact dj_in hN hm hn xs (k + 1) next hp d1 (h.skip ha ai.2.1 ai.1 (.inr hsx))
      | false =>
        rw [Bool.not_false, cond_true]
        simp only
        rw [show ((n.long[r5.2.1.toNat]?.getD [])[k]?.getD 0) = d from e1, far.1]
        have hp' := h.push hN hv ha hsx (by rw [self]; exact ⟨far.2.2.1, far.2.2.2⟩)
        rw [self] at hp'
        exact dj_in hN hm hn xs (k + 1) _ _ d1 hp'
theorem dj_run {n : net} (hN : NetOk n) {s : List Bool} {to : Int} (ht : In n to) : ∀ (m : Nat) (out : List Int) (next : Int) (hp : List item) (r : List Int × Int × List item), Dj n s to out next hp → shortest_net_lengths_L1 n s m out next hp = some r → Dj n s to r.1 r.2.1 []
  | 0, _, _, _, _, _, hr => by cases hr
  | m + 1, out, next, hp, r, h, hr => by
    unfold shortest_net_lengths_L1 at hr
    simp only at hr
    cases hg : decide (heapq_Queue_int_Len ⟨hp, next⟩ > 0) with
    | false =>
      rw [hg, cond_false] at hr
      cases hr
      have := of_decide_eq_false hg
      have e : hp = [] := List.length_eq_zero_iff.1 (by
        have e2 : heapq_Queue_int_Len ⟨hp, next⟩ = (hp.length : Int) := rfl
        omega)
      subst e
      exact h
    | true =>
      rw [hg, cond_true] at hr
      have hpop := len_pop hN h.inv rfl hg rfl
      have hpos : 0 < hp.length := by omega
      obtain ⟨x, ys, e, p, p2, p3⟩ := pop_is (q := ⟨hp, next⟩) hpos (h.inv.small hN).1 h.inv.ord
      have p : hp.Perm (x :: ys) := p
      have hle : ∀ y ∈ ys, x.priority ≤ y.priority := fun y hy => kle_pri (p3 y hy)
      rw [e] at hpop hr
      obtain ⟨p1, q2, q3⟩ := hpop
      have hxv : In n x.value := ⟨p1.v0, p1.v1⟩
      cases hn : decide (out[x.value.toNat]?.getD 0 ≥ 0) with
      | true =>
        rw [hn, cond_true] at hr
        exact dj_run hN ht m out _ _ r (h.again p p1.inv hxv (of_decide_eq_true hn)) hr
      | false =>
        rw [hn, cond_false] at hr
        unfold bindv at hr
        have hneg : at_ out x.value < 0 := by have := of_decide_eq_false hn; show out[x.value.toNat]?.getD 0 < 0; omega
        have hb := h.begin hN ht p hle hxv p1.p0 hneg (p1.start hn)
        have hin := dj_in hN p1 hn (n.links[x.value.toNat]?.getD []) 0 next ys List.drop_zero hb
        exact dj_run hN ht m _ _ _ r (hin.finish hN hxv (by rw [Nat.zero_add])) hr
structure Least (n : net) (s : List Bool) (to : Int) (l : List Int) : Prop where
  len : l.length = n.names.length
  tr : ∀ v, In n v → 0 ≤ at_ l v → Tr n s to v (at_ l v)
  le : ∀ v d, Tr n s to v d → 0 ≤ at_ l v ∧ at_ l v ≤ d
  bd : ∀ v, In n v → at_ l v ≤ 21000000
theorem len_law {n : net} (hN : NetOk n) {s : List Bool} {to : Int} (ht : In n to) : Least n s to (shortest_net_lengths n to s) := by
  obtain ⟨f1, f2⟩ := first_inv (n := n) (to := to) ⟨ht.1, ht.2⟩ (rep_is hN.n1 hN.n7)
  have h0 : ∀ v, In n v → at_ (slices_Repeat_int_int [(-1)] (n.names.length : Int)) v < 0 := fun v hv => by
    have hv1 := hv.1
    have hv2 := hv.2
    unfold at_
    rw [rep_is hN.n1 hN.n7, List.getElem?_replicate, if_pos (by omega)]
    decide
  have hd : Dj n s to (slices_Repeat_int_int [(-1)] (n.names.length : Int)) (heapq_Queue_int_Push heapq_New_int 0 to).next (heapq_Queue_int_Push heapq_New_int 0 to).heap := by
    refine ⟨f1, fun v hv h => absurd h (by have := h0 v hv; omega), fun y hy => ?_, fun v hv h => absurd h (by have := h0 v hv; omega), .inr ⟨⟨0, 0, to⟩, by rw [f2]; exact List.mem_singleton.2 rfl, rfl, Int.le_refl _⟩, fun v hv => by have := h0 v hv; omega, fun u i m d hu h => absurd h (by have := h0 u hu; omega)⟩
    rw [f2] at hy
    rw [List.mem_singleton.1 hy]
    exact .base
  obtain ⟨r, hr⟩ := len_total (closed := s) hN (33 * n.names.length + 1) _ _ _ f1 (by rw [f2]; show 1 + _ ≤ _; omega)
  have hfin := dj_run hN ht _ _ _ _ r hd hr
  have e : shortest_net_lengths n to s = r.1 := by
    unfold shortest_net_lengths bindv
    simp only
    rw [hr]
    rfl
  rw [e]
  have nocov : ∀ m b, Cov r.1 [] m b → 0 ≤ at_ r.1 m ∧ at_ r.1 m ≤ b := fun m b hc => by
    rcases hc with hc | ⟨y, hy, _⟩
    · exact hc
    · cases hy
  refine ⟨hfin.inv.len, hfin.tr, fun v d h => ?_, hfin.bd⟩
  induction h with
  | base => exact nocov _ _ hfin.start
  | step hk ha hs ih =>
    have := nocov _ _ (hfin.cov _ _ _ _ (tr_in hN ht hk).1 ih.1 ha hs)
    omega
end Go.Sky
end
section
namespace Go.Sky
open Go Go.Eng
structure NetSym (n : net) : Prop where
  sym : ∀ k i m d, In n k → arc n k i m d → ∃ j, arc n m j k d
  srt : ∀ k, In n k → (lk n k.toNat).Pairwise (· < ·)
inductive Pth (n : net) (s : List Bool) (to : Int) : List Int → Int → Prop
  | last : Pth n s to [to] 0
  | cons {v m d e : Int} {i : Nat} {p : List Int} : arc n v i m d → Pth n s to (m :: p) e → shut_ s m = false → Pth n s to (v :: m :: p) (d + e)
def lexle : List Int → List Int → Prop
  | [], _ => True
  | _ :: _, [] => False
  | a :: x, b :: y => a < b ∨ a = b ∧ lexle x y
structure Ask (n : net) (f to : Int) (s : List Bool) (l : List Int) : Prop where
  ok : NetOk n
  sym : NetSym n
  hf : In n f
  ht : In n to
  ne : f ≠ to
  sf : shut_ s f = true
  st : shut_ s to = false
  ls : Least n s to l
theorem tr_open {n : net} {s : List Bool} {to : Int} (ht : shut_ s to = false) {v d : Int} (h : Tr n s to v d) : shut_ s v = false := by
  cases h with
  | base => exact ht
  | step _ _ h => exact h
theorem pth_tr {n : net} (hN : NetOk n) (hS : NetSym n) {s : List Bool} {to : Int} {q : List Int} {e : Int} (h : Pth n s to q e) : ∀ v p, q = v :: p → In n v → shut_ s v = false → Tr n s to v e := by
  induction h with
  | last =>
    intro v p hq _ _
    cases hq
    exact .base
  | @cons v' m d e i p' ha hp hs ih =>
    intro v p hq hv hsv
    cases hq
    obtain ⟨j, hj⟩ := hS.sym v' i m d hv ha
    have := Tr.step (ih m p' rfl (arc_in hN hv ha).1 hs) hj hsv
    rwa [Int.add_comm] at this
theorem pth_pos {n : net} (hN : NetOk n) {s : List Bool} {to : Int} {q : List Int} {e : Int} (h : Pth n s to q e) : ∀ v p, q = v :: p → In n v → 0 ≤ e ∧ (p ≠ [] → 1 ≤ e) := by
  induction h with
  | last =>
    intro v p hq _
    cases hq
    exact ⟨Int.le_refl _, fun h => absurd rfl h⟩
  | @cons v' m d e i p' ha hp hs ih =>
    intro v p hq hv
    cases hq
    have a := arc_in hN hv ha
    have := (ih m p' rfl a.1).1
    exact ⟨by omega, fun _ => by omega⟩
theorem least_to {n : net} {s : List Bool} {to : Int} {l : List Int} (h : Least n s to l) : at_ l to = 0 := by
  have := h.le to 0 .base
  omega
theorem has_next {n : net} {f to : Int} {s : List Bool} {l : List Int} (A : Ask n f to s l) {v : Int} (hv : In n v) (h0 : 0 ≤ at_ l v) (hne : v ≠ to) : ∃ i m d, arc n v i m d ∧ shut_ s m = false ∧ 0 ≤ at_ l m ∧ d + at_ l m = at_ l v := by
  have h := A.ls.tr v hv h0
  generalize hx : at_ l v = x at h
  cases h with
  | base => exact absurd rfl hne
  | @step k i _ d e hk ha hs =>
    have hkn := (tr_in A.ok A.ht hk).1
    have h1 := A.ls.le k e hk
    have h2 := A.ls.le v _ (Tr.step (A.ls.tr k hkn h1.1) ha hs)
    obtain ⟨j, hj⟩ := A.sym.sym k i v d hkn ha
    exact ⟨j, k, d, hj, tr_open A.st hk, h1.1, by omega⟩
def Cand (n : net) (f b : Int) (s : List Bool) (l : List Int) (v left : Int) (i : Nat) (m d : Int) : Prop := arc n v i m d ∧ (v ≠ f ∨ m ≠ b) ∧ shut_ s m = false ∧ 0 ≤ at_ l m ∧ d + at_ l m = left
theorem sum_w {n : net} {f to : Int} {s : List Bool} {l : List Int} (A : Ask n f to s l) {v : Int} (hv : In n v) {i : Nat} {m d : Int} (ha : arc n v i m d) (h0 : 0 ≤ at_ l m) : w64 (d + at_ l m) = d + at_ l m := by
  have a := arc_in A.ok hv ha
  have := A.ls.bd m a.1
  exact w64_id (by omega)
theorem L3_is {n : net} {f to b : Int} {s0 : List Bool} {l : List Int} (A : Ask n f to (s0.set f.toNat true) l) {v : Int} (hv : In n v) {left : Int} : ∀ (xs : List Int) (k : Nat), (lk n v.toNat).drop k = xs →
    (∃ i m d, k ≤ i ∧ Cand n f b (s0.set f.toNat true) l v left i m d ∧ (∀ j m' d', k ≤ j → j < i → ¬ Cand n f b (s0.set f.toNat true) l v left j m' d') ∧ shortest_net_way_L3 n f b s0 l xs k left v = (at_ l m, m)) ∨
    ((∀ i m d, k ≤ i → ¬ Cand n f b (s0.set f.toNat true) l v left i m d) ∧ shortest_net_way_L3 n f b s0 l xs k left v = (left, v))
  | [], k, hd => by
    refine .inr ⟨fun i m d hi hc => ?_, rfl⟩
    have h1 := List.drop_eq_nil_iff.1 hd
    have h2 := (List.getElem?_eq_some_iff.1 hc.1.1).1
    omega
  | x :: xs, k, hd => by
    have hv1 := hv.1
    have hv2 := hv.2
    have hrow := A.ok.row v.toNat (by omega)
    have hlt : k < (lk n v.toNat).length := by
      rcases Nat.lt_or_ge k (lk n v.toNat).length with h | h
      · exact h
      · rw [List.drop_of_length_le h] at hd; cases hd
    have d1 : (lk n v.toNat).drop (k + 1) = xs := by rw [← List.drop_drop, hd]; rfl
    have hx : (lk n v.toNat)[k]? = some x := by
      have : ((lk n v.toNat).drop k)[0]? = some x := by rw [hd]; rfl
      rwa [List.getElem?_drop, Nat.add_zero] at this
    obtain ⟨d, hdd⟩ : ∃ d, (lg n v.toNat)[k]? = some d := ⟨_, List.getElem?_eq_getElem (by omega)⟩
    have ha : arc n v k x d := ⟨hx, hdd⟩
    have e1 : (n.long[v.toNat]?.getD [])[k]?.getD 0 = d := by rw [show (n.long[v.toNat]?.getD [])[k]? = some d from hdd]; rfl
    have uniq : ∀ m' d', arc n v k m' d' → m' = x ∧ d' = d := fun m' d' h => ⟨Option.some.inj (h.1.symm.trans hx), Option.some.inj (h.2.symm.trans hdd)⟩
    have go : (¬ Cand n f b (s0.set f.toNat true) l v left k x d) → shortest_net_way_L3 n f b s0 l (x :: xs) k left v = shortest_net_way_L3 n f b s0 l xs (k + 1) left v →
        (∃ i m d, k ≤ i ∧ Cand n f b (s0.set f.toNat true) l v left i m d ∧ (∀ j m' d', k ≤ j → j < i → ¬ Cand n f b (s0.set f.toNat true) l v left j m' d') ∧ shortest_net_way_L3 n f b s0 l (x :: xs) k left v = (at_ l m, m)) ∨
        ((∀ i m d, k ≤ i → ¬ Cand n f b (s0.set f.toNat true) l v left i m d) ∧ shortest_net_way_L3 n f b s0 l (x :: xs) k left v = (left, v)) := fun hno he => by
      have hno' : ∀ m' d', ¬ Cand n f b (s0.set f.toNat true) l v left k m' d' := fun m' d' hc => by
        obtain ⟨rfl, rfl⟩ := uniq m' d' hc.1
        exact hno hc
      rcases L3_is A hv (left := left) (b := b) xs (k + 1) d1 with ⟨i, m, d', h1, h2, h3, h4⟩ | ⟨h1, h2⟩
      · refine .inl ⟨i, m, d', by omega, h2, fun j m2 d2 hj hji hc => ?_, he.trans h4⟩
        by_cases hjk : j = k
        · subst hjk; exact hno' m2 d2 hc
        · exact h3 j m2 d2 (by omega) hji hc
      · refine .inr ⟨fun i m d' hi hc => ?_, he.trans h2⟩
        by_cases hik : i = k
        · subst hik; exact hno' m d' hc
        · exact h1 i m d' (by omega) hc
    cases h1 : ((v != f) || (x != b)) with
    | false =>
      refine go (fun hc => ?_) (by conv => lhs; unfold shortest_net_way_L3
                                   rw [h1, cond_false])
      rw [Bool.or_eq_false_iff] at h1
      rcases hc.2.1 with h | h
      · exact h (by simpa using h1.1)
      · exact h (by simpa using h1.2)
    | true =>
      cases h2 : ((s0.set f.toNat true)[x.toNat]?.getD false) with
      | true =>
        refine go (fun hc => ?_) (by conv => lhs; unfold shortest_net_way_L3
                                     rw [h1, cond_true, h2, Bool.not_true, cond_false])
        have := hc.2.2.1
        rw [show shut_ (s0.set f.toNat true) x = true from h2] at this
        cases this
      | false =>
        cases h3 : decide ((l[x.toNat]?.getD 0) ≥ 0) with
        | false =>
          refine go (fun hc => ?_) (by conv => lhs; unfold shortest_net_way_L3
                                       rw [h1, cond_true, h2, Bool.not_false, cond_true, h3, cond_false])
          exact (of_decide_eq_false h3) hc.2.2.2.1
        | true =>
          have h0 : 0 ≤ at_ l x := of_decide_eq_true h3
          have hw := sum_w A hv ha h0
          cases h4 : ((w64 (((n.long[v.toNat]?.getD [])[k]?.getD 0) + (l[x.toNat]?.getD 0))) == left) with
          | false =>
            refine go (fun hc => ?_) (by conv => lhs; unfold shortest_net_way_L3
                                         rw [h1, cond_true, h2, Bool.not_false, cond_true, h3, cond_true, h4, cond_false])
            rw [e1] at h4
            rw [show w64 (d + l[x.toNat]?.getD 0) = d + at_ l x from hw] at h4
            have : d + at_ l x ≠ left := by simpa using h4
            exact this hc.2.2.2.2
          | true =>
            have e : shortest_net_way_L3 n f b s0 l (x :: xs) k left v = (at_ l x, x) := by
              conv => lhs; unfold shortest_net_way_L3
              rw [h1, cond_true, h2, Bool.not_false, cond_true, h3, cond_true, h4, cond_true]
            rw [e1] at h4
            rw [show w64 (d + l[x.toNat]?.getD 0) = d + at_ l x from hw] at h4
            refine .inl ⟨k, x, d, Nat.le_refl _, ⟨ha, ?_, h2, h0, by simpa using h4⟩, fun j m' d' hj hjk => absurd hjk (by omega), e⟩
            rw [Bool.or_eq_true] at h1
            rcases h1 with h | h
            · exact .inl (by simpa using h)
            · exact .inr (by simpa using h)
def Fst (n : net) (f b : Int) (s : List Bool) (l : List Int) (i : Nat) (m d : Int) : Prop := arc n f i m d ∧ m ≠ b ∧ shut_ s m = false ∧ 0 ≤ at_ l m
theorem L1_is {n : net} {f to b : Int} {s0 : List Bool} {l : List Int} (A : Ask n f to (s0.set f.toNat true) l) : ∀ (xs : List Int) (k : Nat) (best : Int), (lk n f.toNat).drop k = xs → -1 ≤ best →
    -1 ≤ shortest_net_way_L1 n f b s0 l xs k best ∧
    (shortest_net_way_L1 n f b s0 l xs k best = best ∨ ∃ i m d, Fst n f b (s0.set f.toNat true) l i m d ∧ shortest_net_way_L1 n f b s0 l xs k best = d + at_ l m) ∧
    (0 ≤ best → 0 ≤ shortest_net_way_L1 n f b s0 l xs k best ∧ shortest_net_way_L1 n f b s0 l xs k best ≤ best) ∧
    (∀ i m d, k ≤ i → Fst n f b (s0.set f.toNat true) l i m d → 0 ≤ shortest_net_way_L1 n f b s0 l xs k best ∧ shortest_net_way_L1 n f b s0 l xs k best ≤ d + at_ l m)
  | [], k, best, hd, hb => by
    refine ⟨hb, .inl rfl, fun h => ⟨h, Int.le_refl _⟩, fun i m d hi hc => ?_⟩
    have h1 := List.drop_eq_nil_iff.1 hd
    have h2 := (List.getElem?_eq_some_iff.1 hc.1.1).1
    omega
  | x :: xs, k, best, hd, hb => by
    have hv := A.hf
    have hv1 := hv.1
    have hv2 := hv.2
    have hrow := A.ok.row f.toNat (by omega)
    have hlt : k < (lk n f.toNat).length := by
      rcases Nat.lt_or_ge k (lk n f.toNat).length with h | h
      · exact h
      · rw [List.drop_of_length_le h] at hd; cases hd
    have d1 : (lk n f.toNat).drop (k + 1) = xs := by rw [← List.drop_drop, hd]; rfl
    have hx : (lk n f.toNat)[k]? = some x := by
      have : ((lk n f.toNat).drop k)[0]? = some x := by rw [hd]; rfl
      rwa [List.getElem?_drop, Nat.add_zero] at this
    obtain ⟨d, hdd⟩ : ∃ d, (lg n f.toNat)[k]? = some d := ⟨_, List.getElem?_eq_getElem (by omega)⟩
    have ha : arc n f k x d := ⟨hx, hdd⟩
    have ai := arc_in A.ok hv ha
    have e1 : (n.long[f.toNat]?.getD [])[k]?.getD 0 = d := by rw [show (n.long[f.toNat]?.getD [])[k]? = some d from hdd]; rfl
    have uniq : ∀ m' d', arc n f k m' d' → m' = x ∧ d' = d := fun m' d' h => ⟨Option.some.inj (h.1.symm.trans hx), Option.some.inj (h.2.symm.trans hdd)⟩
    have skip : (¬ Fst n f b (s0.set f.toNat true) l k x d) → shortest_net_way_L1 n f b s0 l (x :: xs) k best = shortest_net_way_L1 n f b s0 l xs (k + 1) best → _ := fun hno he => by
      have ih := L1_is A (b := b) xs (k + 1) best d1 hb
      rw [← he] at ih
      exact (⟨ih.1, ih.2.1, ih.2.2.1, fun i m d' hi hc => by
        by_cases hik : i = k
        · subst hik
          obtain ⟨rfl, rfl⟩ := uniq m d' hc.1
          exact absurd hc hno
        · exact ih.2.2.2 i m d' (by omega) hc⟩ : -1 ≤ shortest_net_way_L1 n f b s0 l (x :: xs) k best ∧
    (shortest_net_way_L1 n f b s0 l (x :: xs) k best = best ∨ ∃ i m d, Fst n f b (s0.set f.toNat true) l i m d ∧ shortest_net_way_L1 n f b s0 l (x :: xs) k best = d + at_ l m) ∧
    (0 ≤ best → 0 ≤ shortest_net_way_L1 n f b s0 l (x :: xs) k best ∧ shortest_net_way_L1 n f b s0 l (x :: xs) k best ≤ best) ∧
    (∀ i m d, k ≤ i → Fst n f b (s0.set f.toNat true) l i m d → 0 ≤ shortest_net_way_L1 n f b s0 l (x :: xs) k best ∧ shortest_net_way_L1 n f b s0 l (x :: xs) k best ≤ d + at_ l m))
    cases h1 : (x != b) with
    | false => exact skip (fun hc => hc.2.1 (by simpa using h1)) (by conv => lhs; unfold shortest_net_way_L1
                                                                     rw [h1, cond_false])
    | true =>
      cases h2 : ((s0.set f.toNat true)[x.toNat]?.getD false) with
      | true =>
        refine skip (fun hc => ?_) (by conv => lhs; unfold shortest_net_way_L1
                                       rw [h1, cond_true, h2, Bool.not_true, cond_false])
        have := hc.2.2.1
        rw [show shut_ (s0.set f.toNat true) x = true from h2] at this
        cases this
      | false =>
        cases h3 : decide ((l[x.toNat]?.getD 0) ≥ 0) with
        | false =>
          refine skip (fun hc => ?_) (by conv => lhs; unfold shortest_net_way_L1
                                         rw [h1, cond_true, h2, Bool.not_false, cond_true, h3, cond_false])
          exact (of_decide_eq_false h3) hc.2.2.2
        | true =>
          have h0 : 0 ≤ at_ l x := of_decide_eq_true h3
          have hw : w64 (((n.long[f.toNat]?.getD [])[k]?.getD 0) + (l[x.toNat]?.getD 0)) = d + at_ l x := by rw [e1]; exact sum_w A hv ha h0
          have hF : Fst n f b (s0.set f.toNat true) l k x d := ⟨ha, by simpa using h1, h2, h0⟩
          have take : (best < 0 ∨ d + at_ l x < best) → shortest_net_way_L1 n f b s0 l (x :: xs) k best = shortest_net_way_L1 n f b s0 l xs (k + 1) (d + at_ l x) → _ := fun hlt he => by
            have ih := L1_is A (b := b) xs (k + 1) (d + at_ l x) d1 (by omega)
            rw [← he] at ih
            have h5 := ih.2.2.1 (by omega)
            exact (⟨by omega, .inr (by
              rcases ih.2.1 with h | h
              · exact ⟨k, x, d, hF, h⟩
              · exact h), fun hb0 => ⟨h5.1, by omega⟩, fun i m d' hi hc => by
              by_cases hik : i = k
              · subst hik
                obtain ⟨rfl, rfl⟩ := uniq m d' hc.1
                exact h5
              · exact ih.2.2.2 i m d' (by omega) hc⟩ : -1 ≤ shortest_net_way_L1 n f b s0 l (x :: xs) k best ∧
    (shortest_net_way_L1 n f b s0 l (x :: xs) k best = best ∨ ∃ i m d, Fst n f b (s0.set f.toNat true) l i m d ∧ shortest_net_way_L1 n f b s0 l (x :: xs) k best = d + at_ l m) ∧
    (0 ≤ best → 0 ≤ shortest_net_way_L1 n f b s0 l (x :: xs) k best ∧ shortest_net_way_L1 n f b s0 l (x :: xs) k best ≤ best) ∧
    (∀ i m d, k ≤ i → Fst n f b (s0.set f.toNat true) l i m d → 0 ≤ shortest_net_way_L1 n f b s0 l (x :: xs) k best ∧ shortest_net_way_L1 n f b s0 l (x :: xs) k best ≤ d + at_ l m))
          cases h4 : decide (best < 0) with
          | true =>
            exact take (.inl (of_decide_eq_true h4)) (by conv => lhs; unfold shortest_net_way_L1
                                                         rw [h1, cond_true, h2, Bool.not_false, cond_true, h3, cond_true, h4, cond_true, hw])
          | false =>
            have hb0 := of_decide_eq_false h4
            cases h5 : decide ((w64 (((n.long[f.toNat]?.getD [])[k]?.getD 0) + (l[x.toNat]?.getD 0))) < best) with
            | true =>
              exact take (.inr (by have := of_decide_eq_true h5; rwa [hw] at this)) (by conv => lhs; unfold shortest_net_way_L1
                                                                                        rw [h1, cond_true, h2, Bool.not_false, cond_true, h3, cond_true, h4, cond_false, h5, cond_true, hw])
            | false =>
              have h6 := of_decide_eq_false h5
              rw [hw] at h6
              have he : shortest_net_way_L1 n f b s0 l (x :: xs) k best = shortest_net_way_L1 n f b s0 l xs (k + 1) best := by
                conv => lhs; unfold shortest_net_way_L1
                rw [h1, cond_true, h2, Bool.not_false, cond_true, h3, cond_true, h4, cond_false, h5, cond_false]
              have ih := L1_is A (b := b) xs (k + 1) best d1 hb
              rw [← he] at ih
              have h7 := ih.2.2.1 (by omega)
              refine ⟨ih.1, ih.2.1, ih.2.2.1, fun i m d' hi hc => ?_⟩
              by_cases hik : i = k
              · subst hik
                obtain ⟨rfl, rfl⟩ := uniq m d' hc.1
                omega
              · exact ih.2.2.2 i m d' (by omega) hc
structure On (n : net) (f b to : Int) (s : List Bool) (l : List Int) (left v : Int) : Prop where
  inn : In n v
  le0 : 0 ≤ left
  nxt : v ≠ to → ∃ i m d, Cand n f b s l v left i m d
  low : ∀ i m d, arc n v i m d → (v ≠ f ∨ m ≠ b) → shut_ s m = false → 0 ≤ at_ l m → left ≤ d + at_ l m
  fin : v = to → left = 0
theorem on_known {n : net} {f to b : Int} {s : List Bool} {l : List Int} (A : Ask n f to s l) {v : Int} (hv : In n v) (hs : shut_ s v = false) (h0 : 0 ≤ at_ l v) : On n f b to s l (at_ l v) v := by
  have hf : v ≠ f := fun e => by rw [e, A.sf] at hs; cases hs
  refine ⟨hv, h0, fun hne => ?_, fun i m d ha _ hsm hm => ?_, fun e => by rw [e]; exact least_to A.ls⟩
  · obtain ⟨i, m, d, h1, h2, h3, h4⟩ := has_next A hv h0 hne
    exact ⟨i, m, d, h1, .inl hf, h2, h3, h4⟩
  · obtain ⟨j, hj⟩ := A.sym.sym v i m d hv ha
    have hmn := (arc_in A.ok hv ha).1
    have := (A.ls.le v _ (Tr.step (A.ls.tr m hmn hm) hj hs)).2
    omega
theorem on_step {n : net} {f to b : Int} {s0 : List Bool} {l : List Int} (A : Ask n f to (s0.set f.toNat true) l) {left v : Int} (h : On n f b to (s0.set f.toNat true) l left v) (hne : v ≠ to) {r : Int × Int} (hr : shortest_net_way_L3 n f b s0 l (n.links[v.toNat]?.getD []) 0 left v = r) :
    ∃ i d, Cand n f b (s0.set f.toNat true) l v left i r.2 d ∧ (∀ j m' d', j < i → ¬ Cand n f b (s0.set f.toNat true) l v left j m' d') ∧ r.1 = at_ l r.2 ∧ On n f b to (s0.set f.toNat true) l r.1 r.2 ∧ r.1 < left := by
  rcases L3_is A h.inn (b := b) (left := left) (n.links[v.toNat]?.getD []) 0 List.drop_zero with ⟨i, m, d, _, h2, h3, h4⟩ | ⟨h1, _⟩
  · rw [h4] at hr
    subst hr
    have ai := arc_in A.ok h.inn h2.1
    refine ⟨i, d, h2, fun j m' d' hj => h3 j m' d' (Nat.zero_le _) hj, rfl, on_known A ai.1 h2.2.2.1 h2.2.2.2.1, ?_⟩
    have := h2.2.2.2.2
    show at_ l m < left
    omega
  · obtain ⟨i, m, d, hc⟩ := h.nxt hne
    exact absurd hc (h1 i m d (Nat.zero_le _))
theorem srt_le {n : net} (hS : NetSym n) {v : Int} (hv : In n v) {i j : Nat} {m m' d d' : Int} (h : arc n v i m d) (h' : arc n v j m' d') (hij : i ≤ j) : m < m' ∨ m = m' ∧ d = d' := by
  have hs := hS.srt v hv
  by_cases he : i = j
  · subst he
    exact .inr ⟨Option.some.inj (h.1.symm.trans h'.1), Option.some.inj (h.2.symm.trans h'.2)⟩
  · obtain ⟨h1, e1⟩ := List.getElem?_eq_some_iff.1 h.1
    obtain ⟨h2, e2⟩ := List.getElem?_eq_some_iff.1 h'.1
    have := List.pairwise_iff_getElem.1 hs i j h1 h2 (by omega)
    rw [e1, e2] at this
    exact .inl this
structure Got (n : net) (f b to : Int) (s : List Bool) (l : List Int) (left v : Int) (tail : List Int) : Prop where
  pth : Pth n s to (v :: tail) left
  fst : v = f → ∀ m, tail.head? = some m → m ≠ b
  lex : ∀ p, Pth n s to (v :: p) left → (v = f → ∀ m, p.head? = some m → m ≠ b) → lexle tail p
  mem : ∀ x ∈ tail, In n x ∧ shut_ s x = false ∧ 0 ≤ at_ l x ∧ at_ l x < left
  nd : tail.Nodup
theorem L2_is {n : net} {f to b : Int} {s0 : List Bool} {l : List Int} (A : Ask n f to (s0.set f.toNat true) l) : ∀ (m : Nat) (out : List Int) (left v : Int), On n f b to (s0.set f.toNat true) l left v → left.toNat < m →
    ∃ tail, shortest_net_way_L2 n f to b s0 l m out left v = some (out ++ tail) ∧ Got n f b to (s0.set f.toNat true) l left v tail
  | 0, _, _, _, _, hm => absurd hm (Nat.not_lt_zero _)
  | m + 1, out, left, v, h, hm => by
    unfold shortest_net_way_L2
    by_cases hne : v = to
    · rw [show (v != to) = false by simpa using hne, cond_false]
      refine ⟨[], by rw [List.append_nil], ?_, (fun _ m hm => nomatch hm), (fun p _ _ => trivial), (fun x hx => nomatch hx), .nil⟩
      rw [h.fin hne, hne]
      exact .last
    · rw [show (v != to) = true by simpa using hne, cond_true]
      generalize hr : shortest_net_way_L3 n f b s0 l (n.links[v.toNat]?.getD []) 0 left v = r
      obtain ⟨i, d, hc, hfirst, e1, hon, hlt⟩ := on_step A h hne hr
      have h0 := h.le0
      have hon0 := hon.le0
      obtain ⟨tail, t1, t2⟩ := L2_is A m (out ++ [r.2]) r.1 r.2 hon (by omega)
      have hd : d + r.1 = left := by rw [e1]; exact hc.2.2.2.2
      refine ⟨r.2 :: tail, ?_, ?_, ?_, ?_, ?_, ?_⟩
      · unfold bindv
        show shortest_net_way_L2 n f to b s0 l m (out ++ [r.2]) r.1 r.2 = _
        rw [t1, List.append_assoc]
        rfl
      · rw [← hd]
        exact .cons hc.1 t2.pth hc.2.2.1
      · intro hvf m' hm'
        have : m' = r.2 := by cases hm'; rfl
        rw [this]
        rcases hc.2.1 with h | h
        · exact absurd hvf h
        · exact h
      · intro p hp hpf
        generalize hq : v :: p = q at hp
        generalize hx : left = x at hp
        cases hp with
        | last => cases hq; exact absurd rfl hne
        | @cons v' m' d' e' i' p' ha hp' hs' =>
          cases hq
          have ai := arc_in A.ok h.inn ha
          have htr := pth_tr A.ok A.sym hp' m' p' rfl ai.1 hs'
          have hle := A.ls.le m' e' htr
          have hfb : v ≠ f ∨ m' ≠ b := by
            by_cases hvf : v = f
            · exact .inr (hpf hvf m' rfl)
            · exact .inl hvf
          have hlow := h.low i' m' d' ha hfb hs' hle.1
          have hcand : Cand n f b (s0.set f.toNat true) l v left i' m' d' := ⟨ha, hfb, hs', hle.1, by omega⟩
          have hii : i ≤ i' := by
            rcases Nat.lt_or_ge i' i with hlt | hge
            · exact absurd hcand (hfirst i' m' d' hlt)
            · exact hge
          rcases srt_le A.sym h.inn hc.1 ha hii with hlt | ⟨he, hde⟩
          · exact .inl hlt
          · refine .inr ⟨he, ?_⟩
            have hee : e' = r.1 := by omega
            subst hee
            rw [← he] at hp'
            refine t2.lex p' hp' fun hrf => ?_
            have := hc.2.2.1
            rw [hrf, A.sf] at this
            cases this
      · intro x hx
        rcases List.mem_cons.1 hx with rfl | hx
        · exact ⟨hon.inn, hc.2.2.1, hc.2.2.2.1, by rw [← e1]; exact hlt⟩
        · have := t2.mem x hx
          exact ⟨this.1, this.2.1, this.2.2.1, by omega⟩
      · refine List.nodup_cons.2 ⟨fun hx => ?_, t2.nd⟩
        have := (t2.mem _ hx).2.2.2
        omega
theorem way_law {n : net} {f to b : Int} {s0 : List Bool} (A : Ask n f to (s0.set f.toNat true) (shortest_net_lengths n to (s0.set f.toNat true))) :
    (∃ tail c, shortest_net_way n f to s0 b = (f :: tail, c, true) ∧ 0 ≤ c ∧ Got n f b to (s0.set f.toNat true) (shortest_net_lengths n to (s0.set f.toNat true)) c f tail ∧ (∀ p e, Pth n (s0.set f.toNat true) to (f :: p) e → (∀ m, p.head? = some m → m ≠ b) → c ≤ e)) ∨
    (shortest_net_way n f to s0 b = ([], 0, false) ∧ ∀ p e, Pth n (s0.set f.toNat true) to (f :: p) e → (∀ m, p.head? = some m → m ≠ b) → False) := by
  unfold shortest_net_way slices_Clone_bool_bool bindv
  rw [show (f == to) = false by simpa using A.ne, cond_false]
  simp only
  generalize hl : shortest_net_lengths n to (s0.set f.toNat true) = l at A ⊢
  have L1 := L1_is A (b := b) (n.links[f.toNat]?.getD []) 0 (-1) List.drop_zero (Int.le_refl _)
  generalize shortest_net_way_L1 n f b s0 l (n.links[f.toNat]?.getD []) 0 (-1) = best at L1 ⊢
  have step : ∀ p e, Pth n (s0.set f.toNat true) to (f :: p) e → (∀ m, p.head? = some m → m ≠ b) → ∃ i m d, Fst n f b (s0.set f.toNat true) l i m d ∧ d + at_ l m ≤ e := fun p e hp hpf => by
    generalize hq : f :: p = q at hp
    cases hp with
    | last => cases hq; exact absurd rfl A.ne
    | @cons v' m' d' e' i' p' ha hp' hs' =>
      cases hq
      have htr := pth_tr A.ok A.sym hp' m' p' rfl (arc_in A.ok A.hf ha).1 hs'
      have hle := A.ls.le m' e' htr
      exact ⟨i', m', d', ⟨ha, hpf m' rfl, hs', hle.1⟩, by omega⟩
  cases hb : decide (best < 0) with
  | true =>
    rw [cond_true]
    refine .inr ⟨rfl, fun p e hp hpf => ?_⟩
    obtain ⟨i, m, d, hF, _⟩ := step p e hp hpf
    have := (L1.2.2.2 i m d (Nat.zero_le _) hF).1
    have := of_decide_eq_true hb
    omega
  | false =>
    rw [cond_false]
    have h0 := of_decide_eq_false hb
    have hon : On n f b to (s0.set f.toNat true) l best f := by
      refine ⟨A.hf, by omega, fun _ => ?_, fun i m d ha hor hs hm => ?_, fun e => absurd e A.ne⟩
      · rcases L1.2.1 with h | ⟨i, m, d, hF, e⟩
        · omega
        · exact ⟨i, m, d, hF.1, .inr hF.2.1, hF.2.2.1, hF.2.2.2, e.symm⟩
      · rcases hor with h | h
        · exact absurd rfl h
        · exact (L1.2.2.2 i m d (Nat.zero_le _) ⟨ha, h, hs, hm⟩).2
    obtain ⟨tail, t1, t2⟩ := L2_is A (best.toNat + 2) [f] best f hon (by omega)
    refine .inl ⟨tail, best, ?_, by omega, t2, fun p e hp hpf => ?_⟩
    · rw [t1]
      rfl
    · obtain ⟨i, m, d, hF, hle⟩ := step p e hp hpf
      have := (L1.2.2.2 i m d (Nat.zero_le _) hF).2
      omega
end Go.Sky
end
