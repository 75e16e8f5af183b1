/- Lemmas toward the given statement (part 14 of 16): SecL SecM SecN LessL WayD TopL WaysL EndL Mh Works Frm. Each theorem states its own conditions; nothing is assumed beyond them. -/
import Derived.Test.YtiknacdnhekekaaSw13
import Derived.Test.YtiknacdnhekekaaSw06
import Derived.Test.YtiknacdnhekekaaSw03
import Derived.Test.YtiknacdnhekekaaSw02
import Derived.Test.YtiknacdnhekekaaSw04
section
namespace Go.Sky
open Go Go.Eng Go.Srt
def Wy (n : net) (f to : Int) (q : List Int) (e : Int) : Prop := q.Nodup ∧ q.head? = some f ∧ Pth n [] to q e
theorem shut_nil (v : Int) : shut_ [] v = false := by unfold shut_; simp
theorem pth_open {n : net} {s : List Bool} {to : Int} {q : List Int} {e : Int} (h : Pth n s to q e) : Pth n [] to q e := by
  induction h with
  | last => exact .last
  | cons ha _ _ ih => exact .cons ha ih (shut_nil _)
theorem pth_shut {n : net} {s : List Bool} {to : Int} {q : List Int} {e : Int} (h : Pth n [] to q e) : (∀ x ∈ q.tail, shut_ s x = false) → Pth n s to q e := by
  induction h with
  | last => intro _; exact .last
  | cons ha _ _ ih => intro hs; exact .cons ha (ih fun x hx => hs x (List.mem_cons_of_mem _ hx)) (hs _ (List.mem_cons_self ..))
theorem pth_inn {n : net} {s : List Bool} {to : Int} (hN : NetOk n) {q : List Int} {e : Int} (h : Pth n s to q e) : ∀ v p, q = v :: p → In n v → ∀ x ∈ q, In n x := by
  induction h with
  | last => intro v p hq hv x hx; cases hq; rw [List.mem_singleton.1 hx]; exact hv
  | cons ha _ _ ih =>
    intro v p hq hv x hx
    cases hq
    rcases List.mem_cons.1 hx with rfl | hx
    · exact hv
    · exact ih _ _ rfl (arc_in hN hv ha).1 x hx
theorem wy_cons {n : net} {f to : Int} {q : List Int} {e : Int} (h : Wy n f to q e) : ∃ p, q = f :: p := by
  obtain ⟨_, h, _⟩ := h
  cases q with
  | nil => cases h
  | cons a p => cases h; exact ⟨p, rfl⟩
theorem arc_uni {n : net} (hS : NetSym n) {v : Int} (hv : In n v) {i j : Nat} {m d d' : Int} (h : arc n v i m d) (h' : arc n v j m d') : d = d' := by
  rcases Nat.le_total i j with g | g
  · rcases srt_le hS hv h h' g with g | g
    · omega
    · exact g.2
  · rcases srt_le hS hv h' h g with g | g
    · omega
    · exact g.2.symm
theorem lexle_refl : ∀ a : List Int, lexle a a
  | [] => trivial
  | _ :: a => .inr ⟨rfl, lexle_refl a⟩
theorem lexle_trans : ∀ {a b c : List Int}, lexle a b → lexle b c → lexle a c
  | [], _, _, _, _ => trivial
  | _ :: _, [], _, h, _ => h.elim
  | _ :: _, _ :: _, [], _, h => h.elim
  | x :: a, y :: b, z :: c, h, h2 => by
    unfold lexle at *
    rcases h with h | ⟨h, h3⟩ <;> rcases h2 with h2 | ⟨h2, h4⟩
    · exact .inl (by omega)
    · exact .inl (by omega)
    · exact .inl (by omega)
    · exact .inr ⟨by omega, lexle_trans h3 h4⟩
theorem lexle_app : ∀ (p : List Int) {a b : List Int}, lexle a b → lexle (p ++ a) (p ++ b)
  | [], _, _, h => h
  | _ :: p, _, _, h => .inr ⟨rfl, lexle_app p h⟩
theorem lexle_pre : ∀ (a b : List Int), lexle a (a ++ b)
  | [], _ => trivial
  | _ :: a, b => .inr ⟨rfl, lexle_pre a b⟩
theorem lexle_anti : ∀ {a b : List Int}, lexle a b → lexle b a → a = b
  | [], [], _, _ => rfl
  | [], _ :: _, _, h => h.elim
  | _ :: _, [], h, _ => h.elim
  | x :: a, y :: b, h, h2 => by
    unfold lexle at *
    rcases h with h | ⟨h, h3⟩ <;> rcases h2 with h2 | ⟨h2, h4⟩
    · omega
    · omega
    · omega
    · rw [h, lexle_anti h3 h4]
theorem ccmp (x y : Int) : (cmp_Compare_int x y < 0 ∧ x < y) ∨ (cmp_Compare_int x y = 0 ∧ x = y) ∨ (0 < cmp_Compare_int x y ∧ y < x) := by
  unfold cmp_Compare_int cmp_isNaN_int
  simp only
  rcases Int.lt_trichotomy x y with h | h | h
  · left; simp [h]
  · subst h; right; left; simp
  · right; right
    have : ¬ x < y := by omega
    simp [h, this]
theorem cmp_L1 {b : List Int} : ∀ (xs : List Int) (k : Nat), (slices_Compare_int_int_L1 b xs k = .inl () ∧ ∃ t, b.drop k = xs ++ t) ∨ ∃ r, slices_Compare_int_int_L1 b xs k = .inr r ∧ (r < 0 → lexle xs (b.drop k)) ∧ (0 ≤ r → lexle (b.drop k) xs)
  | [], _ => .inl ⟨rfl, _, rfl⟩
  | x :: xs, k => by
    unfold slices_Compare_int_int_L1
    by_cases hk : (k : Int) ≥ (b.length : Int)
    · rw [decide_eq_true hk, cond_true, List.drop_eq_nil_of_le (by omega)]
      exact .inr ⟨1, rfl, fun h => by omega, fun _ => trivial⟩
    · rw [decide_eq_false hk, cond_false]
      have hb : b.drop k = b[k]?.getD 0 :: b.drop (k + 1) := by
        rw [List.drop_eq_getElem_cons (by omega), List.getElem?_eq_getElem (by omega)]; rfl
      rw [hb]
      generalize b[k]?.getD 0 = y
      simp only
      rcases ccmp x y with ⟨h, h2⟩ | ⟨h, h2⟩ | ⟨h, h2⟩
      · rw [show (cmp_Compare_int x y != 0) = true by simp; omega, cond_true]
        exact .inr ⟨_, rfl, fun _ => .inl h2, fun h3 => by omega⟩
      · rw [h, show ((0 : Int) != 0) = false from rfl, cond_false]
        subst h2
        rcases cmp_L1 (b := b) xs (k + 1) with ⟨g, t, g2⟩ | ⟨r, g, g2, g3⟩
        · exact .inl ⟨g, t, by rw [g2]; rfl⟩
        · exact .inr ⟨r, g, fun h => .inr ⟨rfl, g2 h⟩, fun h => .inr ⟨rfl, g3 h⟩⟩
      · rw [show (cmp_Compare_int x y != 0) = true by simp; omega, cond_true]
        exact .inr ⟨_, rfl, fun h3 => by omega, fun _ => .inl h2⟩
theorem cmp_is (a b : List Int) : (slices_Compare_int_int a b < 0 → lexle a b) ∧ (0 ≤ slices_Compare_int_int a b → lexle b a) := by
  unfold slices_Compare_int_int
  rcases cmp_L1 (b := b) a 0 with ⟨g, t, g2⟩ | ⟨r, g, g2, g3⟩
  · rw [List.drop_zero] at g2
    rw [g, Sum.elim_inl]
    by_cases h : (a.length : Int) < (b.length : Int)
    · rw [decide_eq_true h, cond_true]
      exact ⟨fun _ => by rw [g2]; exact lexle_pre _ _, fun h => by omega⟩
    · rw [decide_eq_false h, cond_false]
      have : t = [] := by
        rw [g2, List.length_append] at h
        exact List.eq_nil_of_length_eq_zero (by omega)
      rw [g2, this, List.append_nil]
      exact ⟨fun h => by omega, fun _ => lexle_refl _⟩
  · rw [g, Sum.elim_inr]
    rw [List.drop_zero] at g2 g3
    exact ⟨g2, g3⟩
end Go.Sky
end
section
namespace Go.Sky
open Go Go.Eng Go.Srt
def Dev (l : List Int) (i : Nat) (q : List Int) : Prop := i + 1 < q.length ∧ q.take (i + 1) = l.take (i + 1) ∧ iat q (i + 1) ≠ iat l (i + 1)
def ble (e : Int) (p : List Int) (e' : Int) (q : List Int) : Prop := e < e' ∨ e = e' ∧ lexle p q
theorem ble_trans {a b c : Int} {p q r : List Int} (h : ble a p b q) (h2 : ble b q c r) : ble a p c r := by
  unfold ble at *
  rcases h with h | ⟨h, h3⟩ <;> rcases h2 with h2 | ⟨h2, h4⟩
  · exact .inl (by omega)
  · exact .inl (by omega)
  · exact .inl (by omega)
  · exact .inr ⟨by omega, lexle_trans h3 h4⟩
theorem pth_inv {n : net} {s : List Bool} {to v m y : Int} {p : List Int} (h : Pth n s to (v :: m :: p) y) : ∃ i d e, arc n v i m d ∧ Pth n s to (m :: p) e ∧ y = d + e ∧ shut_ s m = false := by
  generalize hq : v :: m :: p = q at h
  cases h with
  | last => cases hq
  | cons ha hp hs => cases hq; exact ⟨_, _, _, ha, hp, rfl, hs⟩
theorem take_at {l : List Int} {k : Nat} (h : k < l.length) : l.take (k + 1) = l.take k ++ [iat l k] := by rw [List.take_add_one, iat_at h]; rfl
theorem drop_iat {l : List Int} {k : Nat} (h : k < l.length) : l.drop k = iat l k :: l.drop (k + 1) := by
  rw [List.drop_eq_getElem_cons h]; unfold iat; rw [List.getElem?_eq_getElem h]; rfl
theorem take_iat {l q : List Int} {k i : Nat} (h : q.take k = l.take k) (hi : i < k) : iat q i = iat l i := by
  unfold iat
  rw [← List.getElem?_take_of_lt (l := q) hi, h, List.getElem?_take_of_lt hi]
theorem take_less {l q : List Int} {k i : Nat} (h : q.take k = l.take k) (hi : i ≤ k) : q.take i = l.take i := by
  have := congrArg (List.take i) h
  rwa [List.take_take, List.take_take, Nat.min_eq_left hi] at this
structure Sum (n : net) (to : Int) (l : List Int) (k : Nat) (sum : Int) : Prop where
  bd : 0 ≤ sum ∧ sum ≤ 3000000 * (k : Int)
  fw : ∀ q e, Pth n [] to q e → q.take (k + 1) = l.take (k + 1) → k < q.length → Pth n [] to (q.drop k) (e - sum)
  bw : ∀ p e, Pth n [] to (iat l k :: p) e → Pth n [] to (l.take k ++ iat l k :: p) (sum + e)
theorem Sum.init (n : net) (to : Int) (l : List Int) : Sum n to l 0 0 :=
  ⟨by omega, fun q e h _ _ => by rw [Int.sub_zero]; exact h, fun p e h => by rw [Int.zero_add]; exact h⟩
theorem Sum.step {n : net} {f to : Int} {l : List Int} {k : Nat} {sum d : Int} {i : Nat} (hN : NetOk n) (hS : NetSym n) (L : Ln n f to l) (h : Sum n to l k sum) (hk : k + 1 < l.length) (ha : arc n (iat l k) i (iat l (k + 1)) d) : Sum n to l (k + 1) (sum + d) := by
  have hv := L.in_at (k := k) (by omega)
  have ai := arc_in hN hv ha
  have bd := h.bd
  refine ⟨by omega, fun q e hq ht hl => ?_, fun p e hp => ?_⟩
  · have a := h.fw q e hq (take_less ht (by omega)) (by omega)
    have e0 : iat q k = iat l k := take_iat ht (by omega)
    have e1 : iat q (k + 1) = iat l (k + 1) := take_iat ht (by omega)
    rw [drop_iat (l := q) (k := k) (by omega), drop_iat (l := q) (k := k + 1) hl, e0, e1] at a
    rw [drop_iat (l := q) (k := k + 1) hl, e1]
    obtain ⟨i2, d2, e2, ha2, hp, he, _⟩ := pth_inv a
    have := arc_uni hS hv ha ha2
    rw [show e - (sum + d) = e2 by omega]
    exact hp
  · have a := h.bw (iat l (k + 1) :: p) (d + e) (.cons ha hp (shut_nil _))
    rw [take_at (by omega), List.append_assoc, show sum + d + e = sum + (d + e) by omega]
    exact a
def Bst (n : net) (f to : Int) (l : List Int) (k : Nat) (best : List Int) (least : Int) : Prop :=
  (best = [] ∧ ∀ i, i < k → ∀ q e, Wy n f to q e → ¬ Dev l i q) ∨
  (best ≠ [] ∧ Wy n f to best least ∧ (∃ i, i < k ∧ Dev l i best) ∧ ∀ i, i < k → ∀ q e, Wy n f to q e → Dev l i q → ble least best e q)
def Fnd (n : net) (f to : Int) (l : List Int) (k : Nat) (x : List Int) (c : Int) : Prop := Wy n f to x c ∧ Dev l k x ∧ ∀ q e, Wy n f to q e → Dev l k q → ble c x e q
theorem Bst.none {n : net} {f to : Int} {l : List Int} {k : Nat} {best : List Int} {least : Int} (h : Bst n f to l k best least) (hn : ∀ q e, Wy n f to q e → ¬ Dev l k q) : Bst n f to l (k + 1) best least := by
  rcases h with ⟨h1, h2⟩ | ⟨h1, h2, ⟨i, hi, h3⟩, h4⟩
  · refine .inl ⟨h1, fun i hi q e hq => ?_⟩
    rcases Nat.lt_succ_iff_lt_or_eq.1 hi with g | rfl
    · exact h2 i g q e hq
    · exact hn q e hq
  · refine .inr ⟨h1, h2, ⟨i, by omega, h3⟩, fun i hi q e hq hd => ?_⟩
    rcases Nat.lt_succ_iff_lt_or_eq.1 hi with g | rfl
    · exact h4 i g q e hq hd
    · exact absurd hd (hn q e hq)
theorem Bst.new {n : net} {f to : Int} {l : List Int} {k : Nat} {best x : List Int} {least c : Int} (h : Bst n f to l k best least) (hF : Fnd n f to l k x c) (hb : best = [] ∨ ble c x least best) : Bst n f to l (k + 1) x c := by
  refine .inr ⟨fun e => ?_, hF.1, ⟨k, by omega, hF.2.1⟩, fun i hi q e hq hd => ?_⟩
  · obtain ⟨p, hp⟩ := wy_cons hF.1
    rw [e] at hp; cases hp
  · rcases Nat.lt_succ_iff_lt_or_eq.1 hi with g | rfl
    · rcases h with ⟨_, h2⟩ | ⟨h1, _, _, h4⟩
      · exact absurd hd (h2 i g q e hq)
      · exact ble_trans (hb.resolve_left h1) (h4 i g q e hq hd)
    · exact hF.2.2 q e hq hd
theorem Bst.old {n : net} {f to : Int} {l : List Int} {k : Nat} {best x : List Int} {least c : Int} (h : Bst n f to l k best least) (hF : Fnd n f to l k x c) (h1 : best ≠ []) (hb : ble least best c x) : Bst n f to l (k + 1) best least := by
  rcases h with ⟨h2, _⟩ | ⟨_, h2, ⟨i, hi, h3⟩, h4⟩
  · exact absurd h2 h1
  · refine .inr ⟨h1, h2, ⟨i, by omega, h3⟩, fun i hi q e hq hd => ?_⟩
    rcases Nat.lt_succ_iff_lt_or_eq.1 hi with g | rfl
    · exact h4 i g q e hq hd
    · exact ble_trans hb (hF.2.2 q e hq hd)
theorem tail_ne {n : net} {f to : Int} {l : List Int} {k : Nat} {s : List Bool} {tail : List Int} {c : Int} (L : Ln n f to l) (hk : k + 1 < l.length) (h : Pth n s to (iat l k :: tail) c) : 0 < tail.length := by
  cases tail with
  | nil =>
    generalize hq : [iat l k] = q at h
    cases h with
    | last =>
      have e := List.cons.inj hq
      have := L.uni (i := k) (j := l.length - 1) (by omega) (by omega) (by rw [e.1, iat_of L.lst])
      omega
    | cons _ _ _ => cases hq
  | cons _ _ => exact Nat.succ_pos _
theorem round_is {n : net} {f to : Int} {l : List Int} {k : Nat} {closed : List Bool} {sum : Int} (hN : NetOk n) (hS : NetSym n) (ht : In n to) (L : Ln n f to l) (I : SecI n l k closed) (S : Sum n to l k sum) (hk : k + 1 < l.length) :
    (∃ tail c, shortest_net_way n (iat l k) to closed (iat l (k + 1)) = (iat l k :: tail, c, true) ∧ (0 ≤ c ∧ c ≤ 18000000) ∧ tail.length ≤ 6 ∧ Fnd n f to l k (l.take k ++ iat l k :: tail) (sum + c)) ∨
    (shortest_net_way n (iat l k) to closed (iat l (k + 1)) = ([], 0, false) ∧ ∀ q e, Wy n f to q e → ¬ Dev l k q) := by
  have hat := L.in_at (k := k) (by omega)
  have hld := L.nd
  have ltk : l = l.take k ++ iat l k :: l.drop (k + 1) := by rw [← drop_iat (by omega), List.take_append_drop]
  have dev : ∀ q e, Wy n f to q e → Dev l k q → ∃ p, q = l.take k ++ iat l k :: p ∧ Pth n (closed.set (iat l k).toNat true) to (iat l k :: p) (e - sum) ∧ ∀ m, p.head? = some m → m ≠ iat l (k + 1) := fun q e hq hd => by
    have a := S.fw q e hq.2.2 hd.2.1 (by have := hd.1; omega)
    have e0 : iat q k = iat l k := take_iat hd.2.1 (by omega)
    have et : q.take k = l.take k := take_less hd.2.1 (by omega)
    rw [drop_iat (l := q) (k := k) (by have := hd.1; omega), e0] at a
    have eq : q = l.take k ++ iat l k :: q.drop (k + 1) := by
      rw [← et, ← e0, ← drop_iat (by have := hd.1; omega), List.take_append_drop]
    have nd := hq.1
    obtain ⟨p0, hp0⟩ := wy_cons hq
    have fin : In n f := L.inn f (List.mem_of_getElem? L.hd)
    have qin := pth_inn hN hq.2.2 f p0 hp0 fin
    refine ⟨q.drop (k + 1), eq, pth_shut a fun x hx => ?_, fun m hm => ?_⟩
    · change x ∈ q.drop (k + 1) at hx
      have xin := qin x (List.mem_of_mem_drop hx)
      rw [eq] at nd
      have n2 := List.nodup_append.1 nd
      have hxk : x ≠ iat l k := fun e => (List.nodup_cons.1 n2.2.1).1 (e ▸ hx)
      have hxt : x ∉ l.take k := fun h => n2.2.2 x h x (List.mem_cons_of_mem _ hx) rfl
      have a1 := xin.1
      have a2 := hat.1
      unfold shut_
      rw [List.getElem?_set_ne (by omega)]
      cases g : shut_ closed x with
      | false => exact g
      | true => exact absurd ((I.cl x xin).1 g) hxt
    · rw [List.head?_drop, iat_at hd.1] at hm
      rw [← Option.some.inj hm]
      exact hd.2.2
  rcases way_all (b := iat l (k + 1)) hN hS hat ht I.len (I.to L ht (by omega)) with ⟨tail, c, h1, W⟩ | ⟨h1, h2⟩
  · refine .inl ⟨tail, c, h1, W.bd, W.len, ⟨?_, ?_, S.bw tail c (pth_open W.pth)⟩, ⟨?_, ?_, ?_⟩, fun q e hq hd => ?_⟩
    · rw [ltk] at hld
      have n2 := List.nodup_append.1 hld
      refine List.nodup_append.2 ⟨n2.1, W.nd, fun a ha b hb hab => ?_⟩
      subst hab
      rcases List.mem_cons.1 hb with e | hb
      · exact n2.2.2 a ha a (by rw [e]; exact List.mem_cons_self ..) rfl
      · have m := W.mem a hb
        have g := (I.cl a m.1).2 ha
        have hak : a ≠ iat l k := fun e => (List.nodup_cons.1 W.nd).1 (e ▸ hb)
        have a1 := m.1.1
        have a2 := hat.1
        have m2 := m.2
        unfold shut_ at m2
        rw [List.getElem?_set_ne (by omega)] at m2
        rw [show closed[a.toNat]?.getD false = true from g] at m2
        cases m2
    · cases k with
      | zero => exact (iat_at (l := l) (k := 0) (by omega)).symm.trans L.hd
      | succ k => rw [List.head?_append, List.head?_take]; simp only [Nat.succ_ne_zero, if_false]; rw [List.head?_eq_getElem?, L.hd]; rfl
    · have := tail_ne L (k := k) hk W.pth
      rw [List.length_append, List.length_take, List.length_cons]
      omega
    · rw [take_at (l := l) (by omega)]
      have e : (l.take k).length = k := by rw [List.length_take]; omega
      rw [show l.take k ++ iat l k :: tail = (l.take k ++ [iat l k]) ++ tail by simp]
      exact List.take_left' (by rw [List.length_append, e]; rfl)
    · have t := tail_ne L (k := k) hk W.pth
      have e : (l.take k).length = k := by rw [List.length_take]; omega
      have : iat (l.take k ++ iat l k :: tail) (k + 1) = iat tail 0 := by
        unfold iat
        rw [List.getElem?_append_right (by omega), e, show k + 1 - k = 0 + 1 by omega, List.getElem?_cons_succ]
      rw [this]
      exact W.fst _ (by rw [List.head?_eq_getElem?]; exact iat_at t)
    · obtain ⟨p, rfl, hp, hm⟩ := dev q e hq hd
      rcases W.least p _ hp hm with g | ⟨g, g2⟩
      · exact .inl (by omega)
      · exact .inr ⟨by omega, lexle_app _ (.inr ⟨rfl, g2⟩)⟩
  · refine .inr ⟨h1, fun q e hq hd => ?_⟩
    obtain ⟨p, _, hp, hm⟩ := dev q e hq hd
    exact h2 p _ hp hm
end Go.Sky
end
section
namespace Go.Sky
open Go Go.Eng Go.Srt
theorem sec_run {r1 : net × Int × Int × Int} {r2 : List Int × Int × Bool} {f : Int} (hN : NetOk r1.1) (hS : NetSym r1.1) (ht : In r1.1 r1.2.2.1) (L : Ln r1.1 f r1.2.2.1 r2.1) : ∀ (m k : Nat) (best : List Int) (least sum : Int) (closed : List Bool), m + k = r2.1.length - 1 → SecI r1.1 r2.1 k closed → Sum r1.1 r1.2.2.1 r2.1 k sum → Bst r1.1 f r1.2.2.1 r2.1 k best least →
    Bst r1.1 f r1.2.2.1 r2.1 (r2.1.length - 1) (shortest_Second_L1 r1 r2 m k best least sum closed).1 (shortest_Second_L1 r1 r2 m k best least sum closed).2.1
  | 0, k, best, least, sum, closed, hm, _, _, B => by
    unfold shortest_Second_L1
    rw [show r2.1.length - 1 = k by omega]
    exact B
  | m + 1, k, best, least, sum, closed, hm, I, S, B => by
    have hk : k + 1 < r2.1.length := by omega
    have l7 := L.len.2
    obtain ⟨i, d0, ha0⟩ := L.lk k hk
    obtain ⟨j, hj, hj2⟩ := idx_is ha0.1
    have hin := L.in_at (k := k) (by omega)
    have hi0 := hin.1
    have hi1 := hin.2
    have row := (hN.row (iat r2.1 k).toNat (by omega)).1
    have hjl := (List.getElem?_eq_some_iff.1 hj2).1
    obtain ⟨d, hd⟩ : ∃ d, (lg r1.1 (iat r2.1 k).toNat)[j]? = some d := ⟨_, List.getElem?_eq_getElem (by omega)⟩
    have ha : arc r1.1 (iat r2.1 k) j (iat r2.1 (k + 1)) d := ⟨hj2, hd⟩
    have ai := arc_in hN hin ha
    have sb := S.bd
    have S' := S.step hN hS L hk ha
    have I' := I.step L (k := k) (by omega)
    have hsum : w64 (sum + ((r1.1.long[(r2.1[k]?.getD 0).toNat]?.getD [])[(slices_Index_int_int (r1.1.links[(r2.1[k]?.getD 0).toNat]?.getD []) (r2.1[(k + 1)]?.getD 0)).toNat]?.getD 0)) = sum + d := by
      change w64 (sum + ((lg r1.1 (iat r2.1 k).toNat)[(slices_Index_int_int (lk r1.1 (iat r2.1 k).toNat) (iat r2.1 (k + 1))).toNat]?.getD 0)) = _
      rw [hj, Int.toNat_natCast, hd, Option.getD_some, w64_id (by omega)]
    have ih := fun best least B => sec_run hN hS ht L m (k + 1) best least (sum + d) (closed.set ((r2.1[k]?.getD 0).toNat) true) (by omega) I' S' B
    unfold shortest_Second_L1
    simp only
    rw [hsum, w64_id (x := (k : Int) + 1) (by omega), show ((k : Int) + 1).toNat = k + 1 by omega]
    rcases round_is hN hS ht L I S hk with ⟨tail, c, h1, hc, htl, hF⟩ | ⟨h1, h2⟩
    · rw [show shortest_net_way r1.1 (r2.1[k]?.getD 0) r1.2.2.1 closed (r2.1[k + 1]?.getD 0) = _ from h1]
      simp only [cond_true]
      rw [concat_two (by rw [List.length_take]; omega) (by rw [List.length_cons]; omega), w64_id (x := sum + c) (by omega)]
      by_cases hb : best.length = 0
      · rw [decide_eq_true (show (best.length : Int) = 0 by omega), Bool.true_or, cond_true]
        exact ih _ _ (B.new hF (.inl (List.eq_nil_of_length_eq_zero hb)))
      · have hbn : best ≠ [] := fun e => hb (by rw [e]; rfl)
        rw [decide_eq_false (show ¬ (best.length : Int) = 0 by omega), Bool.false_or]
        by_cases hl : sum + c < least
        · rw [decide_eq_true hl, cond_true]
          exact ih _ _ (B.new hF (.inr (.inl hl)))
        · rw [decide_eq_false hl, cond_false]
          by_cases he : sum + c = least
          · rw [show (sum + c == least) = true by simpa using he, cond_true]
            have cm := cmp_is (r2.1.take k ++ iat r2.1 k :: tail) best
            by_cases hr : slices_Compare_int_int (r2.1.take k ++ iat r2.1 k :: tail) best < 0
            · rw [decide_eq_true hr, cond_true]
              exact ih _ _ (B.new hF (.inr (.inr ⟨he, cm.1 hr⟩)))
            · rw [decide_eq_false hr, cond_false]
              exact ih _ _ (B.old hF hbn (.inr ⟨he.symm, cm.2 (by omega)⟩))
          · rw [show (sum + c == least) = false by simpa using he, cond_false]
            exact ih _ _ (B.old hF hbn (.inl (by omega)))
    · rw [show shortest_net_way r1.1 (r2.1[k]?.getD 0) r1.2.2.1 closed (r2.1[k + 1]?.getD 0) = _ from h1]
      simp only [cond_false]
      exact ih _ _ (B.none h2)
theorem wy_ln {n : net} {f to : Int} {q : List Int} {e : Int} (hN : NetOk n) (hf : In n f) (h : Wy n f to q e) : Ln n f to q := by
  have p := pth_ln h.2.2
  obtain ⟨t, ht⟩ := wy_cons h
  have qin := pth_inn hN h.2.2 f t ht hf
  have := in_le h.1 qin
  have := hN.n7
  exact ⟨qin, h.1, ⟨p.1, by omega⟩, by rw [ht]; rfl, p.2.1, p.2.2⟩
theorem dev_ex {n : net} {f to : Int} {l q : List Int} (L : Ln n f to l) (Q : Ln n f to q) (hne : q ≠ l) : ∃ i, i < l.length - 1 ∧ Dev l i q := by
  refine Classical.byContradiction fun hno => hne ?_
  have l1 := L.len.1
  have q1 := Q.len.1
  have all : ∀ k, k < l.length → k < q.length ∧ q.take (k + 1) = l.take (k + 1) := fun k => by
    induction k with
    | zero =>
      intro hk
      refine ⟨by omega, ?_⟩
      rw [take_at (l := q) (k := 0) (by omega), take_at (l := l) (k := 0) (by omega), List.take_zero, List.take_zero, iat_of L.hd, iat_of Q.hd]
    | succ k ih =>
      intro hk
      have a := ih (by omega)
      have e0 : iat q k = iat l k := take_iat a.2 (by omega)
      have hq : k + 1 < q.length := by
        rcases Nat.lt_or_ge (k + 1) q.length with g | g
        · exact g
        · have e : q.length - 1 = k := by omega
          have b := Q.lst
          rw [e, iat_at (by omega), e0] at b
          have := L.uni (i := k) (j := l.length - 1) (by omega) (by omega) (by rw [Option.some.inj b, iat_of L.lst])
          omega
      refine ⟨hq, ?_⟩
      by_cases e1 : iat q (k + 1) = iat l (k + 1)
      · rw [take_at hq, take_at hk, a.2, e1]
      · exact absurd ⟨k, by omega, hq, a.2, e1⟩ hno
  have z := all (l.length - 1) (by omega)
  rw [show l.length - 1 + 1 = l.length by omega, List.take_length] at z
  have e0 : iat q (l.length - 1) = to := by
    rw [take_iat (l := l) (k := l.length) (by rw [z.2, List.take_length]) (by omega)]
    exact iat_of L.lst
  have := Q.uni (i := l.length - 1) (j := q.length - 1) z.1 (by omega) (by rw [e0, iat_of Q.lst])
  rw [← z.2, show l.length = q.length by omega, List.take_length]
theorem first_is {n : net} {f to : Int} {N : Nat} (hN : NetOk n) (hS : NetSym n) (hf : In n f) (ht : In n to) (hc : N = n.names.length) :
    (∃ q c, shortest_net_way n f to (List.replicate N false) (-1) = (q, c, true) ∧ Wy n f to q c ∧ ∀ q' e, Wy n f to q' e → ble c q e q') ∨
    (shortest_net_way n f to (List.replicate N false) (-1) = ([], 0, false) ∧ ∀ q e, ¬ Wy n f to q e) := by
  have key : ∀ q e, Wy n f to q e → ∃ p, q = f :: p ∧ Pth n ((List.replicate N false).set f.toNat true) to (f :: p) e ∧ ∀ m, p.head? = some m → m ≠ -1 := fun q e hq => by
    obtain ⟨p, rfl⟩ := wy_cons hq
    have qin := pth_inn hN hq.2.2 f p rfl hf
    refine ⟨p, rfl, pth_shut hq.2.2 fun x hx => ?_, fun m hm => ?_⟩
    · change x ∈ p at hx
      have xf : x ≠ f := fun e => (List.nodup_cons.1 hq.1).1 (e ▸ hx)
      have a := (qin x (List.mem_cons_of_mem _ hx)).1
      have b := hf.1
      unfold shut_
      rw [List.getElem?_set_ne (by omega)]
      exact open_all N x
    · have := (qin m (List.mem_cons_of_mem _ (List.mem_of_head? hm))).1
      omega
  rcases way_all (b := -1) hN hS hf ht (s0 := List.replicate N false) (by rw [List.length_replicate, hc]) (open_all _ _) with ⟨tail, c, h1, W⟩ | ⟨h1, h2⟩
  · refine .inl ⟨_, c, h1, ⟨W.nd, rfl, pth_open W.pth⟩, fun q e hq => ?_⟩
    obtain ⟨p, rfl, hp, hm⟩ := key q e hq
    rcases W.least p e hp hm with g | ⟨g, g2⟩
    · exact .inl g
    · exact .inr ⟨g, .inr ⟨rfl, g2⟩⟩
  · refine .inr ⟨h1, fun q e hq => ?_⟩
    obtain ⟨p, _, hp, hm⟩ := key q e hq
    exact h2 p e hp hm
theorem both_is {c : Chart} {a b : ByteArray} {r1 : net × Int × Int × Int} (h7 : c.Fixes.length ≤ 7) (hr : shortest_ends c a b = r1) (h0 : (r1.2.2.2 != 0) = false) :
    (shortest_Path c a b = ([], 0, 8) ∧ shortest_Second c a b = ([], 0, 8) ∧ ∀ q e, ¬ Wy r1.1 r1.2.1 r1.2.2.1 q e) ∨
    ∃ q e, shortest_Path c a b = (shortest_net_text r1.1 q, e, 0) ∧ Wy r1.1 r1.2.1 r1.2.2.1 q e ∧ (∀ q' e', Wy r1.1 r1.2.1 r1.2.2.1 q' e' → ble e q e' q') ∧
      ((shortest_Second c a b = ([], 0, 8) ∧ ∀ q' e', Wy r1.1 r1.2.1 r1.2.2.1 q' e' → q' = q) ∨
       ∃ q2 e2, shortest_Second c a b = (shortest_net_text r1.1 q2, e2, 0) ∧ Wy r1.1 r1.2.1 r1.2.2.1 q2 e2 ∧ q2 ≠ q ∧ ∀ q' e', Wy r1.1 r1.2.1 r1.2.2.1 q' e' → q' ≠ q → ble e2 q2 e' q') := by
  have E := ends_is h7 hr h0
  have F := first_is E.1.ok E.1.sym E.2.2.1 E.2.2.2.1 (N := (r1.1.names.length : Int).toNat) (Int.toNat_natCast _)
  unfold shortest_Path shortest_Second bindv
  rw [hr]
  simp only
  rw [h0]
  simp only [cond_false]
  rcases F with ⟨q, e, h1, h2, h3⟩ | ⟨h1, h2⟩
  · refine .inr ⟨q, e, ?_, h2, h3, ?_⟩
    · rw [h1]; rfl
    · rw [h1]
      simp only [Bool.not_true, cond_false]
      have L := wy_ln E.1.ok E.2.2.1 h2
      have R := sec_run (r1 := r1) (r2 := (q, e, true)) E.1.ok E.1.sym E.2.2.2.1 L (q.length - 1) 0 [] 0 0 (List.replicate ((r1.1.names.length : Int).toNat) false) (by simp) (SecI.init (Int.toNat_natCast _)) (Sum.init _ _ _) (.inl ⟨rfl, fun i hi => by omega⟩)
      generalize shortest_Second_L1 r1 (q, e, true) (q.length - 1) 0 [] 0 0 (List.replicate ((r1.1.names.length : Int).toNat) false) = z at R ⊢
      obtain ⟨best, least, cl⟩ := z
      simp only at R ⊢
      rcases R with ⟨g1, g2⟩ | ⟨g1, g2, ⟨i, hi, g3⟩, g4⟩
      · refine .inl ⟨by rw [g1]; rfl, fun q' e' hq => Classical.byContradiction fun hn => ?_⟩
        obtain ⟨i, hi, hd⟩ := dev_ex L (wy_ln E.1.ok E.2.2.1 hq) hn
        exact g2 i hi q' e' hq hd
      · refine .inr ⟨best, least, ?_, g2, fun e => ?_, fun q' e' hq hn => ?_⟩
        · have : best.length ≠ 0 := fun h => g1 (List.eq_nil_of_length_eq_zero h)
          rw [decide_eq_false (by omega), cond_false]
        · rw [e] at g3; exact g3.2.2 rfl
        · obtain ⟨i, hi, hd⟩ := dev_ex L (wy_ln E.1.ok E.2.2.1 hq) hn
          exact g4 i hi q' e' hq hd
  · refine .inl ⟨?_, ?_, h2⟩
    · rw [h1]; rfl
    · rw [h1]; rfl
end Go.Sky
end
section
namespace Go.Sky
open Go Go.Eng Go.Srt
abbrev wq (n : net) (q : List Int) (e : Int) : Way := ⟨q.map (nme n), e⟩
theorem nme_lt {c : Chart} {n : net} (h : Net c n) {a b : Int} (ha : In n a) (hb : In n b) : lt_ (nme n a) (nme n b) ↔ a < b := by
  have a0 := ha.1
  have a1 := ha.2
  have b0 := hb.1
  have b1 := hb.2
  constructor
  · intro hl
    rcases Int.lt_trichotomy a b with g | g | g
    · exact g
    · subst g; exact absurd hl (lt_irr _)
    · exact absurd (lt_trans hl (nm_lt h.srt (i := b.toNat) (j := a.toNat) (by omega) (by omega))) (lt_irr _)
  · intro g
    exact nm_lt h.srt (by omega) (by omega)
theorem nme_inj {c : Chart} {n : net} (h : Net c n) {a b : Int} (ha : In n a) (hb : In n b) (e : nme n a = nme n b) : a = b := by
  rcases Int.lt_trichotomy a b with g | g | g
  · have := (nme_lt h ha hb).2 g; rw [e] at this; exact absurd this (lt_irr _)
  · exact g
  · have := (nme_lt h hb ha).2 g; rw [e] at this; exact absurd this (lt_irr _)
theorem nm_map {n : net} {q : List Int} {k : Nat} (hk : k < q.length) : (q.map (nme n))[k]?.getD (⟨#[]⟩ : ByteArray) = nme n (iat q k) := by
  rw [List.getElem?_map, iat_at hk]; rfl
theorem less_L1 {c : Chart} {n : net} (h : Net c n) {p q : List Int} {e e' : Int} (hp : ∀ x ∈ p, In n x) (hq : ∀ x ∈ q, In n x) : ∀ (m k : Nat), k + m ≤ p.length → k + m ≤ q.length →
    (skywayref1_less_L1 (wq n p e) (wq n q e') m k = .inl () ∧ (p.drop k).take m = (q.drop k).take m) ∨
    ∃ r, skywayref1_less_L1 (wq n p e) (wq n q e') m k = .inr r ∧ (r = true ↔ lexle (p.drop k) (q.drop k)) ∧ p.drop k ≠ q.drop k
  | 0, k, _, _ => .inl ⟨rfl, by rw [List.take_zero, List.take_zero]⟩
  | m + 1, k, h1, h2 => by
    have ip : In n (iat p k) := hp _ (List.mem_of_getElem? (iat_at (by omega)))
    have iq : In n (iat q k) := hq _ (List.mem_of_getElem? (iat_at (by omega)))
    unfold skywayref1_less_L1
    simp only
    rw [nm_map (q := p) (by omega), nm_map (q := q) (by omega), drop_iat (l := p) (k := k) (by omega), drop_iat (l := q) (k := k) (by omega)]
    by_cases he : iat p k = iat q k
    · rw [he, seq_iff.2 rfl, Bool.not_true, cond_false]
      rcases less_L1 h (e := e) (e' := e') hp hq m (k + 1) (by omega) (by omega) with ⟨g, g2⟩ | ⟨r, g, g2, g3⟩
      · exact .inl ⟨g, by rw [List.take_succ_cons, List.take_succ_cons, g2]⟩
      · refine .inr ⟨r, g, g2.trans ⟨fun x => .inr ⟨rfl, x⟩, fun x => ?_⟩, fun x => g3 (List.cons.inj x).2⟩
        rcases x with x | x
        · omega
        · exact x.2
    · rw [seq_F.2 fun x => he (nme_inj h ip iq x), Bool.not_false, cond_true]
      refine .inr ⟨_, rfl, ?_, fun x => he (List.cons.inj x).1⟩
      rw [slt_iff, nme_lt h ip iq]
      exact ⟨fun x => .inl x, fun x => x.elim id fun y => absurd y.1 he⟩
theorem lexle_len : ∀ (m : Nat) (a b : List Int), a.take m = b.take m → m ≤ a.length → m ≤ b.length → (a.length = m ∨ b.length = m) → (lexle a b ↔ a.length ≤ b.length)
  | 0, a, b, _, _, _, ho => by
    rcases ho with ho | ho
    · rw [List.eq_nil_of_length_eq_zero ho]; exact ⟨fun _ => Nat.zero_le _, fun _ => trivial⟩
    · rw [List.eq_nil_of_length_eq_zero ho]
      cases a with
      | nil => exact ⟨fun _ => Nat.le_refl _, fun _ => trivial⟩
      | cons x a => exact ⟨fun h => h.elim, fun h => by simp at h⟩
  | m + 1, [], _, _, h, _, _ => by simp at h
  | m + 1, _ :: _, [], _, _, h, _ => by simp at h
  | m + 1, x :: a, y :: b, h, h1, h2, ho => by
    rw [List.take_succ_cons, List.take_succ_cons] at h
    have hx := (List.cons.inj h).1
    simp only [List.length_cons] at h1 h2 ho ⊢
    have ih := lexle_len m a b (List.cons.inj h).2 (by omega) (by omega) (by omega)
    unfold lexle
    constructor
    · rintro (g | g)
      · omega
      · have := ih.1 g.2; omega
    · intro g
      exact .inr ⟨hx, ih.2 (by omega)⟩
theorem wless_is {c : Chart} {n : net} (h : Net c n) {p q : List Int} {e e' : Int} (hp : ∀ x ∈ p, In n x) (hq : ∀ x ∈ q, In n x) : skywayref1_less (wq n p e) (wq n q e') = true ↔ ble e p e' q ∧ (e = e' → p ≠ q) := by
  unfold skywayref1_less ble
  by_cases he : e = e'
  · subst he
    simp only
    rw [show (e != e) = false by simp, cond_false]
    have hm : ((imin ((p.map (nme n)).length : Int) ((q.map (nme n)).length : Int)).toNat) = min p.length q.length := by
      unfold imin; rw [List.length_map, List.length_map]; split <;> omega
    rw [hm]
    rcases less_L1 h (e := e) (e' := e) hp hq (min p.length q.length) 0 (by omega) (by omega) with ⟨g, g2⟩ | ⟨r, g, g2, g3⟩
    · rw [g, Sum.elim_inl, List.length_map, List.length_map]
      rw [List.drop_zero, List.drop_zero] at g2
      have l := lexle_len _ p q g2 (by omega) (by omega) (by omega)
      have l2 := lexle_len _ q p g2.symm (by omega) (by omega) (by omega)
      rw [decide_eq_true_iff]
      constructor
      · intro x
        exact ⟨.inr ⟨trivial, l.2 (by omega)⟩, fun _ y => by rw [y] at x; omega⟩
      · rintro ⟨x | x, y⟩
        · omega
        · have a := l.1 x.2
          rcases Nat.lt_or_ge p.length q.length with z | z
          · omega
          · exact absurd (lexle_anti x.2 (l2.2 z)) (y trivial)
    · rw [g, Sum.elim_inr, g2]
      rw [List.drop_zero, List.drop_zero] at g3 ⊢
      constructor
      · intro x; exact ⟨.inr ⟨trivial, x⟩, fun _ => g3⟩
      · rintro ⟨x | x, _⟩
        · omega
        · exact x.2
  · simp only
    rw [show (e != e') = true by simpa using he, cond_true, decide_eq_true_iff]
    exact ⟨fun x => ⟨.inl x, fun y => absurd y he⟩, fun x => x.1.elim id fun y => absurd y.1 he⟩
end Go.Sky
end
section
namespace Go.Sky
open Go Go.Eng
def insK (w : Way) (best : List Way) : Nat → Nat
  | 0 => 0
  | k + 1 => cond (skywayref1_less w (best[k]?.getD Way.zero)) (insK w best k) (k + 1)
def ins_ (w : Way) (best : List Way) : List Way := (best.take (insK w best best.length) ++ (w :: best.drop (insK w best best.length))).take 2
def waysF (c : Chart) (w : Way) (last : ByteArray) (rec : Way → List Way → List Way) : List Fix → List Way → List Way
  | [], best => best
  | x :: xs, best => cond ((!(skywayref1_linked c last x.Name)) || skywayref1_HasText w.Names x.Name) (waysF c w last rec xs best)
      (waysF c w last rec xs (rec ⟨w.Names ++ [x.Name], w64 (w.Length + skywayref1_gap c last x.Name)⟩ best))
def ways1 (c : Chart) (to : ByteArray) : Nat → Way → List Way → List Way
  | 0, _, best => best
  | m + 1, w, best => cond (seq (w.Names[w.Names.length - 1]?.getD (⟨#[]⟩ : ByteArray)) to) (ins_ w best) (waysF c w (w.Names[w.Names.length - 1]?.getD (⟨#[]⟩ : ByteArray)) (ways1 c to m) c.Fixes best)
end Go.Sky
end
section
namespace Go.Sky
open Go Go.Eng Go.Srt
theorem lexle_total : ∀ (a b : List Int), lexle a b ∨ lexle b a
  | [], _ => .inl trivial
  | _ :: _, [] => .inr trivial
  | x :: a, y :: b => by
    unfold lexle
    rcases Int.lt_trichotomy x y with h | h | h
    · exact .inl (.inl h)
    · rcases lexle_total a b with g | g
      · exact .inl (.inr ⟨h, g⟩)
      · exact .inr (.inr ⟨h.symm, g⟩)
    · exact .inr (.inl h)
theorem ble_total (e : Int) (p : List Int) (e' : Int) (q : List Int) : ble e p e' q ∨ ble e' q e p := by
  unfold ble
  rcases Int.lt_trichotomy e e' with h | h | h
  · exact .inl (.inl h)
  · rcases lexle_total p q with g | g
    · exact .inl (.inr ⟨h, g⟩)
    · exact .inr (.inr ⟨h.symm, g⟩)
  · exact .inr (.inl h)
structure Top (n : net) (T : List Int → Int → Prop) (best : List Way) (l : List (List Int × Int)) : Prop where
  eq : best = l.map fun x => wq n x.1 x.2
  two : l.length ≤ 2
  mem : ∀ x ∈ l, T x.1 x.2
  inn : ∀ q e, T q e → ∀ x ∈ q, In n x
  ord : l.Pairwise fun x y => ble x.2 x.1 y.2 y.1 ∧ x.1 ≠ y.1
  all : ∀ q e, T q e → (q, e) ∈ l ∨ (l.length = 2 ∧ ∀ x ∈ l, ble x.2 x.1 e q)
theorem Top.same {n : net} {T T' : List Int → Int → Prop} {best : List Way} {l : List (List Int × Int)} (h : Top n T best l) (e : ∀ q e, T q e ↔ T' q e) : Top n T' best l :=
  ⟨h.eq, h.two, fun x hx => (e _ _).1 (h.mem x hx), fun q d hq => h.inn q d ((e _ _).2 hq), h.ord, fun q d hq => h.all q d ((e _ _).2 hq)⟩
theorem Top.ins {c : Chart} {n : net} (N : Net c n) {T : List Int → Int → Prop} {best : List Way} {l : List (List Int × Int)} (h : Top n T best l) {q0 : List Int} {e0 : Int} (h0 : ∀ x ∈ q0, In n x) (hn : ∀ e, ¬ T q0 e) :
    ∃ l', Top n (fun q e => T q e ∨ (q = q0 ∧ e = e0)) (ins_ (wq n q0 e0) best) l' := by
  have inn : ∀ q e, (T q e ∨ (q = q0 ∧ e = e0)) → ∀ x ∈ q, In n x := fun q e hq => by
    rcases hq with hq | ⟨rfl, _⟩
    · exact h.inn q e hq
    · exact h0
  have ne : ∀ x ∈ l, q0 ≠ x.1 := fun x hx e => hn x.2 (by rw [e]; exact h.mem x hx)
  have less : ∀ x ∈ l, (skywayref1_less (wq n q0 e0) (wq n x.1 x.2) = true → ble e0 q0 x.2 x.1) ∧ (skywayref1_less (wq n q0 e0) (wq n x.1 x.2) = false → ble x.2 x.1 e0 q0) := fun x hx => by
    have w := wless_is N (e := e0) (e' := x.2) h0 (h.inn x.1 x.2 (h.mem x hx))
    refine ⟨fun g => (w.1 g).1, fun g => ?_⟩
    rcases ble_total e0 q0 x.2 x.1 with t | t
    · rw [w.2 ⟨t, fun _ => ne x hx⟩] at g; cases g
    · exact t
  obtain ⟨he, two, mem, _, ord, all⟩ := h
  subst he
  match l, two, mem, ord, all, ne, less with
  | [], _, _, _, all, _, _ =>
    refine ⟨[(q0, e0)], rfl, (by simp), fun x hx => by rw [List.mem_singleton.1 hx]; exact .inr ⟨rfl, rfl⟩, inn, List.pairwise_singleton _ _, fun q e hq => ?_⟩
    rcases hq with hq | ⟨rfl, rfl⟩
    · rcases all q e hq with g | g
      · cases g
      · cases g.1
    · exact .inl (List.mem_singleton.2 rfl)
  | [x], _, mem, _, all, ne, less =>
    have lx := less x (List.mem_singleton.2 rfl)
    have nx := ne x (List.mem_singleton.2 rfl)
    have mx := mem x (List.mem_singleton.2 rfl)
    have old : ∀ q e, T q e → (q, e) = x := fun q e hq => by
      rcases all q e hq with g | g
      · exact List.mem_singleton.1 g
      · cases g.1
    cases hl : skywayref1_less (wq n q0 e0) (wq n x.1 x.2) with
    | true =>
      refine ⟨[(q0, e0), x], ?_, (by simp), fun y hy => ?_, inn, ?_, fun q e hq => ?_⟩
      · have : insK (wq n q0 e0) [wq n x.1 x.2] 1 = 0 := by unfold insK; show cond (skywayref1_less (wq n q0 e0) (wq n x.1 x.2)) _ _ = _; rw [hl]; rfl
        unfold ins_
        show (List.take (insK (wq n q0 e0) [wq n x.1 x.2] 1) _ ++ _).take 2 = _
        simp only [List.map_cons, List.map_nil, List.length_cons, List.length_nil, Nat.zero_add, this]
        rfl
      · rcases List.mem_cons.1 hy with rfl | hy
        · exact .inr ⟨rfl, rfl⟩
        · rw [List.mem_singleton.1 hy]; exact .inl mx
      · exact List.pairwise_cons.2 ⟨fun y hy => by rw [List.mem_singleton.1 hy]; exact ⟨lx.1 hl, nx⟩, List.pairwise_singleton _ _⟩
      · rcases hq with hq | ⟨rfl, rfl⟩
        · exact .inl (by rw [old q e hq]; simp)
        · exact .inl (by simp)
    | false =>
      refine ⟨[x, (q0, e0)], ?_, (by simp), fun y hy => ?_, inn, ?_, fun q e hq => ?_⟩
      · have : insK (wq n q0 e0) [wq n x.1 x.2] 1 = 1 := by unfold insK; show cond (skywayref1_less (wq n q0 e0) (wq n x.1 x.2)) _ _ = _; rw [hl]; rfl
        unfold ins_
        simp only [List.map_cons, List.map_nil, List.length_cons, List.length_nil, Nat.zero_add, this]
        rfl
      · rcases List.mem_cons.1 hy with rfl | hy
        · exact .inl mx
        · rw [List.mem_singleton.1 hy]; exact .inr ⟨rfl, rfl⟩
      · exact List.pairwise_cons.2 ⟨fun y hy => by rw [List.mem_singleton.1 hy]; exact ⟨lx.2 hl, fun e => nx e.symm⟩, List.pairwise_singleton _ _⟩
      · rcases hq with hq | ⟨rfl, rfl⟩
        · exact .inl (by rw [old q e hq]; simp)
        · exact .inl (by simp)
  | [x, y], _, mem, ord, all, ne, less =>
    have lx := less x (by simp)
    have nx := ne x (by simp)
    have mx := mem x (by simp)
    have ly := less y (by simp)
    have ny := ne y (by simp)
    have my := mem y (by simp)
    have oxy : ble x.2 x.1 y.2 y.1 ∧ x.1 ≠ y.1 := (List.pairwise_cons.1 ord).1 y (by simp)
    have old : ∀ q e, T q e → (q, e) = x ∨ (q, e) = y ∨ (ble x.2 x.1 e q ∧ ble y.2 y.1 e q) := fun q e hq => by
      rcases all q e hq with g | g
      · rcases List.mem_cons.1 g with g | g
        · exact .inl g
        · exact .inr (.inl (List.mem_singleton.1 g))
      · exact .inr (.inr ⟨g.2 x (by simp), g.2 y (by simp)⟩)
    have i2 : insK (wq n q0 e0) [wq n x.1 x.2, wq n y.1 y.2] 2 = cond (skywayref1_less (wq n q0 e0) (wq n y.1 y.2)) (cond (skywayref1_less (wq n q0 e0) (wq n x.1 x.2)) 0 1) 2 := rfl
    cases hy : skywayref1_less (wq n q0 e0) (wq n y.1 y.2) with
    | false =>
      refine ⟨[x, y], ?_, (by simp), fun z hz => .inl (mem z hz), inn, ord, fun q e hq => ?_⟩
      · rw [hy, cond_false] at i2
        unfold ins_
        simp only [List.map_cons, List.map_nil, List.length_cons, List.length_nil, Nat.zero_add, i2]
        rfl
      · have hyq := ly.2 hy
        rcases hq with hq | ⟨rfl, rfl⟩
        · exact all q e hq
        · refine .inr ⟨rfl, fun z hz => ?_⟩
          rcases List.mem_cons.1 hz with rfl | hz
          · exact ble_trans oxy.1 hyq
          · rw [List.mem_singleton.1 hz]; exact hyq
    | true =>
      have hyq := ly.1 hy
      cases hx : skywayref1_less (wq n q0 e0) (wq n x.1 x.2) with
      | true =>
        have hxq := lx.1 hx
        refine ⟨[(q0, e0), x], ?_, (by simp), fun z hz => ?_, inn, ?_, fun q e hq => ?_⟩
        · rw [hy, hx, cond_true, cond_true] at i2
          unfold ins_
          simp only [List.map_cons, List.map_nil, List.length_cons, List.length_nil, Nat.zero_add, i2]
          rfl
        · rcases List.mem_cons.1 hz with rfl | hz
          · exact .inr ⟨rfl, rfl⟩
          · rw [List.mem_singleton.1 hz]; exact .inl mx
        · exact List.pairwise_cons.2 ⟨fun z hz => by rw [List.mem_singleton.1 hz]; exact ⟨hxq, nx⟩, List.pairwise_singleton _ _⟩
        · rcases hq with hq | ⟨rfl, rfl⟩
          · rcases old q e hq with g | g | g
            · exact .inl (by rw [g]; simp)
            · refine .inr ⟨rfl, fun z hz => ?_⟩
              have g1 : q = y.1 := congrArg Prod.fst g
              have g2 : e = y.2 := congrArg Prod.snd g
              rcases List.mem_cons.1 hz with rfl | hz
              · rw [g1, g2]; exact hyq
              · rw [List.mem_singleton.1 hz, g1, g2]; exact oxy.1
            · refine .inr ⟨rfl, fun z hz => ?_⟩
              rcases List.mem_cons.1 hz with rfl | hz
              · exact ble_trans hxq g.1
              · rw [List.mem_singleton.1 hz]; exact g.1
          · exact .inl (by simp)
      | false =>
        have hxq := lx.2 hx
        refine ⟨[x, (q0, e0)], ?_, (by simp), fun z hz => ?_, inn, ?_, fun q e hq => ?_⟩
        · rw [hy, hx, cond_true, cond_false] at i2
          unfold ins_
          simp only [List.map_cons, List.map_nil, List.length_cons, List.length_nil, Nat.zero_add, i2]
          rfl
        · rcases List.mem_cons.1 hz with rfl | hz
          · exact .inl mx
          · rw [List.mem_singleton.1 hz]; exact .inr ⟨rfl, rfl⟩
        · exact List.pairwise_cons.2 ⟨fun z hz => by rw [List.mem_singleton.1 hz]; exact ⟨hxq, fun e => nx e.symm⟩, List.pairwise_singleton _ _⟩
        · rcases hq with hq | ⟨rfl, rfl⟩
          · rcases old q e hq with g | g | g
            · exact .inl (by rw [g]; simp)
            · refine .inr ⟨rfl, fun z hz => ?_⟩
              have g1 : q = y.1 := congrArg Prod.fst g
              have g2 : e = y.2 := congrArg Prod.snd g
              rcases List.mem_cons.1 hz with rfl | hz
              · rw [g1, g2]; exact oxy.1
              · rw [List.mem_singleton.1 hz, g1, g2]; exact hyq
            · refine .inr ⟨rfl, fun z hz => ?_⟩
              rcases List.mem_cons.1 hz with rfl | hz
              · exact g.1
              · rw [List.mem_singleton.1 hz]; exact ble_trans hyq g.2
          · exact .inl (by simp)
end Go.Sky
end
section
namespace Go.Sky
open Go Go.Eng Go.Srt
theorem hasL {s : ByteArray} : ∀ (l : List ByteArray) (k : Nat), (skywayref1_HasText_L1 s l k = .inl () ∧ s ∉ l) ∨ (skywayref1_HasText_L1 s l k = .inr true ∧ s ∈ l)
  | [], _ => .inl ⟨rfl, List.not_mem_nil⟩
  | y :: l, k => by
    unfold skywayref1_HasText_L1
    cases e : seq y s with
    | true => exact .inr ⟨rfl, by rw [seq_iff.1 e]; exact List.mem_cons_self ..⟩
    | false =>
      rw [cond_false]
      rcases hasL l (k + 1) with h | h
      · exact .inl ⟨h.1, fun hx => by rcases List.mem_cons.1 hx with rfl | hx; exact seq_F.1 e rfl; exact h.2 hx⟩
      · exact .inr ⟨h.1, List.mem_cons_of_mem _ h.2⟩
theorem has_is (l : List ByteArray) (s : ByteArray) : skywayref1_HasText l s = true ↔ s ∈ l := by
  unfold skywayref1_HasText
  rcases hasL (s := s) l 0 with h | h
  · rw [h.1]; exact ⟨fun g => (by cases g), fun g => absurd g h.2⟩
  · rw [h.1]; exact ⟨fun _ => h.2, fun _ => rfl⟩
theorem pth_one {n : net} {s : List Bool} {to v y : Int} (h : Pth n s to [v] y) : y = 0 ∧ v = to := by
  generalize hq : [v] = q at h
  cases h with
  | last => cases hq; exact ⟨rfl, rfl⟩
  | cons _ _ _ => cases hq
structure Pre (n : net) (f to : Int) (Q : List Int) (v E : Int) : Prop where
  nd : (Q ++ [v]).Nodup
  inn : ∀ x ∈ Q ++ [v], In n x
  hd : (Q ++ [v]).head? = some f
  bd : 0 ≤ E ∧ E ≤ 3000000 * (Q.length : Int)
  pth : ∀ rest e, Pth n [] to (Q ++ v :: rest) e ↔ Pth n [] to (v :: rest) (e - E)
theorem Pre.init {n : net} {f : Int} (to : Int) (hf : In n f) : Pre n f to [] f 0 :=
  ⟨by simp, fun x hx => by rw [List.mem_singleton.1 hx]; exact hf, rfl, by simp, fun rest e => by rw [Int.sub_zero]; rfl⟩
theorem Pre.step {n : net} {f to : Int} {Q : List Int} {v E m d : Int} {i : Nat} (hN : NetOk n) (hS : NetSym n) (h : Pre n f to Q v E) (hm : m ∉ Q ++ [v]) (ha : arc n v i m d) : Pre n f to (Q ++ [v]) m (E + d) := by
  have hv := h.inn v (by simp)
  have ai := arc_in hN hv ha
  have bd := h.bd
  refine ⟨List.nodup_append.2 ⟨h.nd, by simp, fun a ha b hb e => hm (by rw [← List.mem_singleton.1 hb, ← e]; exact ha)⟩, fun x hx => ?_, ?_, ?_, fun rest e => ?_⟩
  · rcases List.mem_append.1 hx with hx | hx
    · exact h.inn x hx
    · rw [List.mem_singleton.1 hx]; exact ai.1
  · rw [List.head?_append, h.hd]; rfl
  · rw [List.length_append, List.length_singleton]; omega
  · rw [List.append_assoc]
    refine (h.pth (m :: rest) e).trans ⟨fun g => ?_, fun g => ?_⟩
    · obtain ⟨i2, d2, e2, ha2, hp, he, _⟩ := pth_inv g
      have := arc_uni hS hv ha ha2
      rw [show e - (E + d) = e2 by omega]
      exact hp
    · have g2 := Pth.cons ha g (shut_nil _)
      rw [show d + (e - (E + d)) = e - E by omega] at g2
      exact g2
def Ex (n : net) (f to : Int) (Q : List Int) (v : Int) (q : List Int) (e : Int) : Prop := Wy n f to q e ∧ ∃ rest, q = Q ++ v :: rest
theorem ex_to {n : net} {f to : Int} {Q : List Int} {E : Int} (h : Pre n f to Q to E) (q : List Int) (e : Int) : Ex n f to Q to q e ↔ q = Q ++ [to] ∧ e = E := by
  constructor
  · rintro ⟨w, rest, rfl⟩
    have hr : rest = [] := by
      have l := (pth_ln w.2.2).2.1
      have nd := (List.nodup_append.1 w.1).2.1
      rw [List.length_append, List.length_cons, List.getElem?_append_right (by omega), show Q.length + (rest.length + 1) - 1 - Q.length = rest.length by omega] at l
      cases rest with
      | nil => rfl
      | cons a r =>
        rw [List.length_cons, List.getElem?_cons_succ] at l
        exact absurd (List.mem_of_getElem? l) (List.nodup_cons.1 nd).1
    subst hr
    have := (pth_one ((h.pth [] e).1 w.2.2)).1
    exact ⟨rfl, by omega⟩
  · rintro ⟨rfl, rfl⟩
    exact ⟨⟨h.nd, h.hd, (h.pth [] e).2 (by rw [Int.sub_self]; exact .last)⟩, [], rfl⟩
theorem ex_on {n : net} {f to : Int} {Q : List Int} {v E : Int} (h : Pre n f to Q v E) (hv : v ≠ to) (q : List Int) (e : Int) : Ex n f to Q v q e ↔ ∃ m, m ∉ Q ++ [v] ∧ (∃ i d, arc n v i m d) ∧ Ex n f to (Q ++ [v]) m q e := by
  constructor
  · rintro ⟨w, rest, rfl⟩
    have p := (h.pth rest e).1 w.2.2
    cases rest with
    | nil => exact absurd (pth_one p).2 hv
    | cons m rest =>
      obtain ⟨i, d, _, ha, _⟩ := pth_inv p
      have nd := w.1
      rw [show Q ++ v :: m :: rest = (Q ++ [v]) ++ m :: rest by simp] at nd
      exact ⟨m, fun hm => (List.nodup_append.1 nd).2.2 m hm m (List.mem_cons_self ..) rfl, ⟨i, d, ha⟩, w, rest, by simp⟩
  · rintro ⟨m, _, _, w, rest, rfl⟩
    exact ⟨w, m :: rest, by simp⟩
theorem fold_is {c : Chart} {n : net} (hc : chart_Check c = 0) (N : Net c n) {f to : Int} {Q : List Int} {v E : Int} (h : Pre n f to Q v E) {rec : Way → List Way → List Way}
    (ih : ∀ (m d : Int) (i : Nat), m ∉ Q ++ [v] → arc n v i m d → ∀ (T : List Int → Int → Prop) (best : List Way) (l : List (List Int × Int)), Top n T best l → (∀ q e, T q e → ¬ ∃ rest, q = (Q ++ [v]) ++ m :: rest) →
      ∃ l', Top n (fun q e => T q e ∨ Ex n f to (Q ++ [v]) m q e) (rec (wq n ((Q ++ [v]) ++ [m]) (E + d)) best) l') :
    ∀ (xs : List Fix), (∀ x ∈ xs, x ∈ c.Fixes) → (xs.map Fix.Name).Nodup → ∀ (T : List Int → Int → Prop) (best : List Way) (l : List (List Int × Int)), Top n T best l →
      (∀ q e, T q e → ∀ x ∈ xs, ∀ m, In n m → nme n m = x.Name → ¬ ∃ rest, q = (Q ++ [v]) ++ m :: rest) →
      ∃ l', Top n (fun q e => T q e ∨ ∃ x ∈ xs, ∃ m, In n m ∧ nme n m = x.Name ∧ m ∉ Q ++ [v] ∧ (∃ i d, arc n v i m d) ∧ Ex n f to (Q ++ [v]) m q e) (waysF c (wq n (Q ++ [v]) E) (nme n v) rec xs best) l'
  | [], _, _, T, best, l, ht, _ => ⟨l, ht.same fun q e => ⟨.inl, fun g => g.elim id fun ⟨x, hx, _⟩ => by cases hx⟩⟩
  | x :: xs, hx, hnd, T, best, l, ht, hT => by
    have K := chk_is hc
    have hv := h.inn v (by simp)
    have nd := List.nodup_cons.1 hnd
    have xin := hx x (List.mem_cons_self ..)
    obtain ⟨j, hj⟩ := List.getElem?_of_mem xin
    have xix : 0 ≤ chart_index c x.Name := by rw [K.fst j x hj]; omega
    obtain ⟨k, hk⟩ := List.getElem?_of_mem ((N.mem x.Name).2 xix)
    have hkl := (List.getElem?_eq_some_iff.1 hk).1
    have hm : In n (k : Int) := ⟨by omega, by omega⟩
    have hmn : nme n (k : Int) = x.Name := by unfold nme; rw [Int.toNat_natCast]; exact nm_of hk
    generalize (k : Int) = m at hm hmn
    have uni : ∀ m2, In n m2 → nme n m2 = x.Name → m2 = m := fun m2 h2 e => nme_inj N h2 hm (e.trans hmn.symm)
    have lkd : skywayref1_linked c (nme n v) x.Name = true ↔ ∃ i d, arc n v i m d := by
      rw [linked_is K, ← hmn]
      constructor
      · intro g
        obtain ⟨i, hi⟩ := (N.arc v m _ hv).2 ⟨hm, g, rfl⟩
        exact ⟨i, _, hi⟩
      · rintro ⟨i, d, hi⟩
        exact ((N.arc v m d hv).1 ⟨i, hi⟩).2.1
    have has : skywayref1_HasText (wq n (Q ++ [v]) E).Names x.Name = true ↔ m ∈ Q ++ [v] := by
      rw [has_is, List.mem_map]
      constructor
      · rintro ⟨y, hy, e⟩
        rw [← uni y (h.inn y hy) e]; exact hy
      · intro g; exact ⟨m, g, hmn⟩
    unfold waysF
    by_cases hs : (∃ i d, arc n v i m d) ∧ m ∉ Q ++ [v]
    · obtain ⟨⟨i, d, ha⟩, hmq⟩ := hs
      rw [lkd.2 ⟨i, d, ha⟩, Bool.eq_false_iff.2 fun g => hmq (has.1 g), Bool.not_true, Bool.or_false, cond_false]
      have hg : skywayref1_gap c (nme n v) x.Name = d := by
        have a := (N.arc v m d hv).1 ⟨i, ha⟩
        have ad := adj_in K a.2.1
        rw [← hmn, gap_is K ad.1 ad.2.1, a.2.2]
      have ai := arc_in N.ok hv ha
      have bd := h.bd
      have ql := in_le h.nd h.inn
      rw [List.length_append, List.length_singleton] at ql
      have n7 := N.ok.n7
      have hw : (⟨(wq n (Q ++ [v]) E).Names ++ [x.Name], w64 ((wq n (Q ++ [v]) E).Length + skywayref1_gap c (nme n v) x.Name)⟩ : Way) = wq n ((Q ++ [v]) ++ [m]) (E + d) := by
        rw [hg, w64_id (by show _ ≤ E + d ∧ E + d ≤ _; omega)]
        unfold wq
        rw [List.map_append (l₂ := [m]), List.map_cons, List.map_nil, hmn]
      rw [hw]
      obtain ⟨l1, h1⟩ := ih m d i hmq ha T best l ht fun q e hq => hT q e hq x (List.mem_cons_self ..) m hm hmn
      obtain ⟨l2, h2⟩ := fold_is hc N h ih xs (fun y hy => hx y (List.mem_cons_of_mem _ hy)) nd.2 _ _ l1 h1 (fun q e hq y hy m2 hm2 hn2 => by
        rcases hq with hq | ⟨_, rest, rfl⟩
        · exact hT q e hq y (List.mem_cons_of_mem _ hy) m2 hm2 hn2
        · rintro ⟨rest2, e2⟩
          have e3 := (List.cons.inj (List.append_cancel_left e2)).1
          exact nd.1 (List.mem_map.2 ⟨y, hy, by rw [← hn2, ← e3, hmn]⟩))
      refine ⟨l2, h2.same fun q e => ?_⟩
      constructor
      · rintro ((g | g) | ⟨y, hy, g⟩)
        · exact .inl g
        · exact .inr ⟨x, List.mem_cons_self .., m, hm, hmn, hmq, ⟨i, d, ha⟩, g⟩
        · exact .inr ⟨y, List.mem_cons_of_mem _ hy, g⟩
      · rintro (g | ⟨y, hy, m2, hm2, hn2, g⟩)
        · exact .inl (.inl g)
        · rcases List.mem_cons.1 hy with rfl | hy
          · rw [uni m2 hm2 hn2] at g; exact .inl (.inr g.2.2)
          · exact .inr ⟨y, hy, m2, hm2, hn2, g⟩
    · have hcond : ((!(skywayref1_linked c (nme n v) x.Name)) || skywayref1_HasText (wq n (Q ++ [v]) E).Names x.Name) = true := by
        rw [Bool.or_eq_true, has]
        by_cases g : ∃ i d, arc n v i m d
        · exact .inr (Classical.byContradiction fun g2 => hs ⟨g, g2⟩)
        · left
          rw [Bool.eq_false_iff.2 fun g2 => g (lkd.1 g2)]; rfl
      rw [hcond, cond_true]
      obtain ⟨l2, h2⟩ := fold_is hc N h ih xs (fun y hy => hx y (List.mem_cons_of_mem _ hy)) nd.2 _ _ l ht (fun q e hq y hy => hT q e hq y (List.mem_cons_of_mem _ hy))
      refine ⟨l2, h2.same fun q e => ?_⟩
      constructor
      · rintro (g | ⟨y, hy, g⟩)
        · exact .inl g
        · exact .inr ⟨y, List.mem_cons_of_mem _ hy, g⟩
      · rintro (g | ⟨y, hy, m2, hm2, hn2, g⟩)
        · exact .inl g
        · rcases List.mem_cons.1 hy with rfl | hy
          · rw [uni m2 hm2 hn2] at g; exact absurd ⟨g.2.1, g.1⟩ hs
          · exact .inr ⟨y, hy, m2, hm2, hn2, g⟩
theorem dfs_is {c : Chart} {n : net} (hc : chart_Check c = 0) (N : Net c n) {f to : Int} (ht : In n to) : ∀ (fuel : Nat) (Q : List Int) (v E : Int) (T : List Int → Int → Prop) (best : List Way) (l : List (List Int × Int)), 8 ≤ Q.length + 1 + fuel → Pre n f to Q v E → Top n T best l →
    (∀ q e, T q e → ¬ ∃ rest, q = Q ++ v :: rest) → ∃ l', Top n (fun q e => T q e ∨ Ex n f to Q v q e) (ways1 c (nme n to) fuel (wq n (Q ++ [v]) E) best) l'
  | 0, Q, v, E, T, best, l, hl, h, _, _ => by
    have ql := in_le h.nd h.inn
    rw [List.length_append, List.length_singleton] at ql
    have n7 := N.ok.n7
    omega
  | m + 1, Q, v, E, T, best, l, hl, h, hTop, hT => by
    have K := chk_is hc
    have hv := h.inn v (by simp)
    have last : (wq n (Q ++ [v]) E).Names[(wq n (Q ++ [v]) E).Names.length - 1]?.getD (⟨#[]⟩ : ByteArray) = nme n v := by
      have e : (wq n (Q ++ [v]) E).Names.length - 1 = Q.length := by
        show ((Q ++ [v]).map (nme n)).length - 1 = _
        rw [List.length_map, List.length_append, List.length_singleton]; omega
      rw [e]
      show ((Q ++ [v]).map (nme n))[Q.length]?.getD _ = _
      rw [nm_map (by simp)]
      unfold iat
      rw [List.getElem?_append_right (Nat.le_refl _), Nat.sub_self]; rfl
    unfold ways1
    rw [last]
    by_cases hvt : v = to
    · subst hvt
      rw [seq_iff.2 rfl, cond_true]
      obtain ⟨l', h'⟩ := hTop.ins N (q0 := Q ++ [v]) (e0 := E) h.inn fun e he => hT _ e he ⟨[], rfl⟩
      exact ⟨l', h'.same fun q e => by rw [ex_to h]⟩
    · rw [seq_F.2 fun e => hvt (nme_inj N hv ht e), cond_false]
      obtain ⟨l', h'⟩ := fold_is hc N h (rec := ways1 c (nme n to) m) (fun m2 d i hm2 ha T best l hTop hT => dfs_is hc N ht m (Q ++ [v]) m2 (E + d) T best l (by rw [List.length_append, List.length_singleton]; omega) (h.step N.ok N.sym hm2 ha) hTop hT)
        c.Fixes (fun x hx => hx) (names_nd K) T best l hTop fun q e hq x _ m2 _ _ hr => by
          obtain ⟨rest, e2⟩ := hr
          exact hT q e hq ⟨m2 :: rest, by rw [e2]; simp⟩
      refine ⟨l', h'.same fun q e => ?_⟩
      rw [ex_on h hvt]
      constructor
      · rintro (g | ⟨x, hx, m2, _, _, g⟩)
        · exact .inl g
        · exact .inr ⟨m2, g⟩
      · rintro (g | ⟨m2, g1, ⟨i, d, g2⟩, g3⟩)
        · exact .inl g
        · have hm2 := (arc_in N.ok hv g2).1
          have b0 := hm2.1
          have b1 := hm2.2
          have ix := (N.mem (nme n m2)).1 (List.mem_of_getElem? (nm_at (by omega)))
          rcases ix_is c (nme n m2) with z | ⟨j, x, _, z2, z3⟩
          · omega
          · exact .inr ⟨x, List.mem_of_getElem? z2, m2, hm2, z3.symm, g1, ⟨i, d, g2⟩, g3⟩
theorem ways_is {c : Chart} {n : net} (hc : chart_Check c = 0) (N : Net c n) {f to : Int} (hf : In n f) (ht : In n to) : ∃ l, Top n (Wy n f to) (ways1 c (nme n to) 8 ⟨[nme n f], 0⟩ []) l := by
  obtain ⟨l, h⟩ := dfs_is hc N ht 8 [] f 0 (fun _ _ => False) [] [] (by decide) (Pre.init to hf) ⟨rfl, by simp, fun x hx => (by cases hx), fun _ _ h => h.elim, List.Pairwise.nil, fun _ _ h => h.elim⟩ (fun _ _ h => h.elim)
  refine ⟨l, h.same fun q e => ?_⟩
  constructor
  · rintro (g | g)
    · exact g.elim
    · exact g.1
  · intro g
    obtain ⟨p, hp⟩ := wy_cons g
    exact .inr ⟨g, p, hp⟩
end Go.Sky
end
section
namespace Go.Sky
open Go Go.Eng Go.Srt
theorem text_L1 {n : net} : ∀ (xs : List Int) (k : Nat) (out : List ByteArray), shortest_net_text_L1 n xs k out = out ++ xs.map (nme n)
  | [], _, out => by unfold shortest_net_text_L1; simp
  | x :: xs, k, out => by unfold shortest_net_text_L1; rw [text_L1 xs, List.append_assoc]; rfl
theorem text_is (n : net) (q : List Int) : shortest_net_text n q = q.map (nme n) := by
  unfold shortest_net_text bindv
  rw [text_L1]; rfl
theorem ble_anti {a b : Int} {p q : List Int} (h : ble a p b q) (h2 : ble b q a p) : a = b ∧ p = q := by
  unfold ble at *
  rcases h with h | ⟨h, h3⟩ <;> rcases h2 with h2 | ⟨h2, h4⟩
  · omega
  · omega
  · omega
  · exact ⟨h, lexle_anti h3 h4⟩
theorem ends_ok {c : Chart} {a b : ByteArray} {r1 : net × Int × Int × Int} (h7 : c.Fixes.length ≤ 7) (hck : chart_Check c = 0) (hr : shortest_ends c a b = r1) (h0 : (r1.2.2.2 != 0) = false) :
    (ways1 c b 8 ⟨[a], 0⟩ [] = [] ∧ shortest_Path c a b = ([], 0, 8) ∧ shortest_Second c a b = ([], 0, 8)) ∨
    (∃ w, ways1 c b 8 ⟨[a], 0⟩ [] = [w] ∧ shortest_Path c a b = (w.Names, w.Length, 0) ∧ shortest_Second c a b = ([], 0, 8)) ∨
    (∃ w w2, ways1 c b 8 ⟨[a], 0⟩ [] = [w, w2] ∧ shortest_Path c a b = (w.Names, w.Length, 0) ∧ shortest_Second c a b = (w2.Names, w2.Length, 0)) := by
  have E := ends_is h7 hr h0
  obtain ⟨l, t⟩ := ways_is hck E.1 E.2.2.1 E.2.2.2.1
  rw [E.2.2.2.2.1, E.2.2.2.2.2] at t
  obtain ⟨he, two, mem, _, ord, all⟩ := t
  rw [he]
  rcases both_is h7 hr h0 with ⟨h1, h2, h3⟩ | ⟨q, e, h1, h2, h3, h4⟩
  · left
    cases l with
    | nil => exact ⟨rfl, h1, h2⟩
    | cons x l => exact absurd (mem x (List.mem_cons_self ..)) (h3 _ _)
  · right
    rw [text_is] at h1
    match l, two, mem, ord, all with
    | [], _, _, _, all =>
      rcases all q e h2 with g | g
      · cases g
      · cases g.1
    | [x], _, mem, _, all =>
      left
      have old : ∀ q e, Wy r1.1 r1.2.1 r1.2.2.1 q e → (q, e) = x := fun q e hq => by
        rcases all q e hq with g | g
        · exact List.mem_singleton.1 g
        · cases g.1
      have hx := old q e h2
      subst hx
      rcases h4 with ⟨g, _⟩ | ⟨q2, e2, _, g2, g3, _⟩
      · exact ⟨_, rfl, h1, g⟩
      · exact absurd (congrArg Prod.fst (old q2 e2 g2)) g3
    | [x, y], _, mem, ord, all =>
      right
      have oxy : ble x.2 x.1 y.2 y.1 ∧ x.1 ≠ y.1 := (List.pairwise_cons.1 ord).1 y (by simp)
      have old : ∀ q e, Wy r1.1 r1.2.1 r1.2.2.1 q e → (q, e) = x ∨ (q, e) = y ∨ (ble x.2 x.1 e q ∧ ble y.2 y.1 e q) := fun q e hq => by
        rcases all q e hq with g | g
        · rcases List.mem_cons.1 g with g | g
          · exact .inl g
          · exact .inr (.inl (List.mem_singleton.1 g))
        · exact .inr (.inr ⟨g.2 x (by simp), g.2 y (by simp)⟩)
      have mx := mem x (by simp)
      have my := mem y (by simp)
      have hx : (q, e) = x := by
        rcases old q e h2 with g | g | g
        · exact g
        · have b := h3 _ _ mx
          rw [← g] at oxy
          have z := ble_anti b oxy.1
          exact absurd z.2.symm oxy.2
        · have z := ble_anti (h3 _ _ mx) g.1
          exact Prod.ext z.2 z.1
      subst hx
      rcases h4 with ⟨_, g⟩ | ⟨q2, e2, g1, g2, g3, g4⟩
      · exact absurd (g _ _ my).symm oxy.2
      · have hy : (q2, e2) = y := by
          have b := g4 _ _ my fun z => oxy.2 z.symm
          rcases old q2 e2 g2 with g | g | g
          · exact absurd (congrArg Prod.fst g) g3
          · exact g
          · have z := ble_anti b g.2
            exact Prod.ext z.2 z.1
        subst hy
        rw [text_is] at g1
        exact ⟨_, _, rfl, h1, g1⟩
theorem ends_no {c : Chart} {a b : ByteArray} (h7 : c.Fixes.length ≤ 7) (hck : chart_Check c = 0) : (0 ≤ chart_index c a ∧ 0 ≤ chart_index c b ∧ ((shortest_ends c a b).2.2.2 != 0) = false) ∨
    ((¬ 0 ≤ chart_index c a ∨ ¬ 0 ≤ chart_index c b) ∧ shortest_Path c a b = ([], 0, 6) ∧ shortest_Second c a b = ([], 0, 6)) := by
  have key : ∀ s, (shortest_net_find (shortest_of c) s < 0 ∧ ¬ 0 ≤ chart_index c s) ∨ (¬ shortest_net_find (shortest_of c) s < 0 ∧ 0 ≤ chart_index c s) := fun s => by
    rcases Nat.eq_zero_or_pos c.Fixes.length with g | g
    · have e := List.eq_nil_of_length_eq_zero g
      left
      refine ⟨by rw [find_none e]; decide, ?_⟩
      rcases ix_is c s with z | ⟨j, x, _, z, _⟩
      · omega
      · rw [e] at z; cases z
    · have N := net_law hck h7 g
      rcases N.find s with ⟨k, hk, e⟩ | ⟨hn, e⟩
      · right; exact ⟨by omega, (N.mem s).1 (List.mem_of_getElem? hk)⟩
      · left; exact ⟨by omega, fun z => hn ((N.mem s).2 z)⟩
  unfold shortest_Path shortest_Second shortest_ends
  simp only
  rw [hck, show ((0 : Int) != 0) = false from rfl]
  simp only [cond_false]
  rcases key a with ⟨a1, a2⟩ | ⟨a1, a2⟩
  · rw [decide_eq_true a1, Bool.true_or]
    exact .inr ⟨.inl a2, rfl, rfl⟩
  · rcases key b with ⟨b1, b2⟩ | ⟨b1, b2⟩
    · rw [decide_eq_true b1, Bool.or_true]
      exact .inr ⟨.inr b2, rfl, rfl⟩
    · left
      refine ⟨a2, b2, ?_⟩
      rw [decide_eq_false a1, decide_eq_false b1]
      rfl
end Go.Sky
end
section
namespace Go.Sky
open Go Go.Eng Go.Proofs
open Go.Srt
def skywaylaw1_shortestWorks : Bool :=
  let r1 := shortest_Path (⟨[(⟨(⟨#[65]⟩ : ByteArray), ⟨0, 0⟩⟩ : Fix), (⟨(⟨#[66]⟩ : ByteArray), ⟨5, 0⟩⟩ : Fix), (⟨(⟨#[67]⟩ : ByteArray), ⟨5, 3⟩⟩ : Fix), (⟨(⟨#[68]⟩ : ByteArray), ⟨10, 0⟩⟩ : Fix)], [(⟨(⟨#[85, 49]⟩ : ByteArray), [(⟨#[65]⟩ : ByteArray), (⟨#[66]⟩ : ByteArray), (⟨#[68]⟩ : ByteArray)]⟩ : Airway), (⟨(⟨#[85, 50]⟩ : ByteArray), [(⟨#[65]⟩ : ByteArray), (⟨#[67]⟩ : ByteArray), (⟨#[68]⟩ : ByteArray)]⟩ : Airway)]⟩ : Chart) (⟨#[65]⟩ : ByteArray) (⟨#[68]⟩ : ByteArray)
  let r2 := shortest_Second (⟨[(⟨(⟨#[65]⟩ : ByteArray), ⟨0, 0⟩⟩ : Fix), (⟨(⟨#[66]⟩ : ByteArray), ⟨5, 0⟩⟩ : Fix), (⟨(⟨#[67]⟩ : ByteArray), ⟨5, 3⟩⟩ : Fix), (⟨(⟨#[68]⟩ : ByteArray), ⟨10, 0⟩⟩ : Fix)], [(⟨(⟨#[85, 49]⟩ : ByteArray), [(⟨#[65]⟩ : ByteArray), (⟨#[66]⟩ : ByteArray), (⟨#[68]⟩ : ByteArray)]⟩ : Airway), (⟨(⟨#[85, 50]⟩ : ByteArray), [(⟨#[65]⟩ : ByteArray), (⟨#[67]⟩ : ByteArray), (⟨#[68]⟩ : ByteArray)]⟩ : Airway)]⟩ : Chart) (⟨#[65]⟩ : ByteArray) (⟨#[68]⟩ : ByteArray)
  cond ((r1.2.2 == 0) && (r1.2.1 == 10)) (
    let r3 := skywayref1_SameTexts r1.1 ([(⟨#[65]⟩ : ByteArray), (⟨#[66]⟩ : ByteArray), (⟨#[68]⟩ : ByteArray)])
    cond ((r3 && (r2.2.2 == 0)) && (r2.2.1 == 12)) (
      let r4 := skywayref1_SameTexts r2.1 ([(⟨#[65]⟩ : ByteArray), (⟨#[67]⟩ : ByteArray), (⟨#[68]⟩ : ByteArray)])
      r4) (
      false)) (
    false)
set_option maxRecDepth 100000 in
theorem skywaylaw1_shortestWorks_w (w : World) : Calls Try.prog 4 #[] w (Ret w (.bool (skywaylaw1_shortestWorks))) := by
  refine calls_intro (vs := []) (w := w) Try.func4 rfl Try.ntmps4 rfl ?_
  refine TC.seq ?_
  refine TC.region ?_
  refine TL.r 1 [] [(0, .bool false)] {} ?_
  refine TL.next rfl ?_
  refine TC.seq ?_
  refine TC.region ?_
  refine TL.r 7 [] [(8, .agg #[.string (⟨#[65]⟩ : ByteArray), .int .i64 0, .int .i64 0]), (10, .agg #[.string (⟨#[66]⟩ : ByteArray), .int .i64 5, .int .i64 0]), (12, .agg #[.string (⟨#[67]⟩ : ByteArray), .int .i64 5, .int .i64 3]), (14, .agg #[.string (⟨#[68]⟩ : ByteArray), .int .i64 10, .int .i64 0])] {} ?_
  refine TL.nw 15 (fun b1 => .slice (some ⟨b1, 0, none⟩) 4 4) (fun b1 => .inl (b1, .cells #[.string (⟨#[65]⟩ : ByteArray), .int .i64 0, .int .i64 0, .string (⟨#[66]⟩ : ByteArray), .int .i64 5, .int .i64 0, .string (⟨#[67]⟩ : ByteArray), .int .i64 5, .int .i64 3, .string (⟨#[68]⟩ : ByteArray), .int .i64 10, .int .i64 0] 35 (0, 0))) (fun b1 => {}) (fun b1 => ?_)
  refine TL.nw 16 (fun b2 => .slice (some ⟨b2, 0, none⟩) 3 3) (fun b2 => .inl (b2, .cells #[.string (⟨#[65]⟩ : ByteArray), .string (⟨#[66]⟩ : ByteArray), .string (⟨#[68]⟩ : ByteArray)] 9 (0, 0))) (fun b2 => {}) (fun b2 => ?_)
  refine TL.r 10 [] [(17, .agg #[.string (⟨#[85, 49]⟩ : ByteArray), .slice (some ⟨b2, 0, none⟩) 3 3])] {} ?_
  refine TL.nw 18 (fun b3 => .slice (some ⟨b3, 0, none⟩) 3 3) (fun b3 => .inl (b3, .cells #[.string (⟨#[65]⟩ : ByteArray), .string (⟨#[67]⟩ : ByteArray), .string (⟨#[68]⟩ : ByteArray)] 9 (0, 0))) (fun b3 => {}) (fun b3 => ?_)
  refine TL.r 12 [] [(19, .agg #[.string (⟨#[85, 50]⟩ : ByteArray), .slice (some ⟨b3, 0, none⟩) 3 3])] {} ?_
  refine TL.nw 20 (fun b4 => .slice (some ⟨b4, 0, none⟩) 2 2) (fun b4 => .inl (b4, .cells #[.string (⟨#[85, 49]⟩ : ByteArray), .slice (some ⟨b2, 0, none⟩) 3 3, .string (⟨#[85, 50]⟩ : ByteArray), .slice (some ⟨b3, 0, none⟩) 3 3] 43 (0, 0))) (fun b4 => {}) (fun b4 => ?_)
  refine TL.r 14 [] [(21, .agg #[.slice (some ⟨b1, 0, none⟩) 4 4, .slice (some ⟨b4, 0, none⟩) 2 2])] {} ?_
  refine TL.nw 1 (fun b5 => .pointer (some ⟨b5, 0, none⟩)) (fun b5 => .inl (b5, .cells #[.slice none 0 0, .slice none 0 0] 25 (0, 0))) (fun b5 => {}) (fun b5 => ?_)
  refine TL.s 0 (.inl (b5, .cells #[.slice (some ⟨b1, 0, none⟩) 4 4, .slice (some ⟨b4, 0, none⟩) 2 2] 25 (0, 0))) (fun _ => {}) ?_
  refine TL.next rfl ?_
  refine TC.seq ?_
  refine TC.region ?_
  refine TL.r 1 [0] [(23, .agg #[.slice (some ⟨b1, 0, none⟩) 4 4, .slice (some ⟨b4, 0, none⟩) 2 2])] {} ?_
  refine TL.cn (Γ := (Option Addr × Nat)) 24 (shortest_Path (⟨[(⟨(⟨#[65]⟩ : ByteArray), ⟨0, 0⟩⟩ : Fix), (⟨(⟨#[66]⟩ : ByteArray), ⟨5, 0⟩⟩ : Fix), (⟨(⟨#[67]⟩ : ByteArray), ⟨5, 3⟩⟩ : Fix), (⟨(⟨#[68]⟩ : ByteArray), ⟨10, 0⟩⟩ : Fix)], [(⟨(⟨#[85, 49]⟩ : ByteArray), [(⟨#[65]⟩ : ByteArray), (⟨#[66]⟩ : ByteArray), (⟨#[68]⟩ : ByteArray)]⟩ : Airway), (⟨(⟨#[85, 50]⟩ : ByteArray), [(⟨#[65]⟩ : ByteArray), (⟨#[67]⟩ : ByteArray), (⟨#[68]⟩ : ByteArray)]⟩ : Airway)]⟩ : Chart) (⟨#[65]⟩ : ByteArray) (⟨#[68]⟩ : ByteArray)) (fun r1 g => .tuple #[.slice g.1 r1.1.length g.2, .int .i64 r1.2.1, .int .i64 r1.2.2]) (fun r1 g => [.inr (Own g.1 g.2 9 1 (r1.1.map sc))]) (fun w hM => shortest_Path_w (⟨[(⟨(⟨#[65]⟩ : ByteArray), ⟨0, 0⟩⟩ : Fix), (⟨(⟨#[66]⟩ : ByteArray), ⟨5, 0⟩⟩ : Fix), (⟨(⟨#[67]⟩ : ByteArray), ⟨5, 3⟩⟩ : Fix), (⟨(⟨#[68]⟩ : ByteArray), ⟨10, 0⟩⟩ : Fix)], [(⟨(⟨#[85, 49]⟩ : ByteArray), [(⟨#[65]⟩ : ByteArray), (⟨#[66]⟩ : ByteArray), (⟨#[68]⟩ : ByteArray)]⟩ : Airway), (⟨(⟨#[85, 50]⟩ : ByteArray), [(⟨#[65]⟩ : ByteArray), (⟨#[67]⟩ : ByteArray), (⟨#[68]⟩ : ByteArray)]⟩ : Airway)]⟩ : Chart) (some ⟨b1, 0, none⟩) 4 (some ⟨b4, 0, none⟩) 2 ([(⟨(⟨#[85, 49]⟩ : ByteArray), (⟨(some ⟨b2, 0, none⟩), 3, [(⟨#[65]⟩ : ByteArray), (⟨#[66]⟩ : ByteArray), (⟨#[68]⟩ : ByteArray)]⟩ : Sl ByteArray)⟩ : AirwayR), (⟨(⟨#[85, 50]⟩ : ByteArray), (⟨(some ⟨b3, 0, none⟩), 3, [(⟨#[65]⟩ : ByteArray), (⟨#[67]⟩ : ByteArray), (⟨#[68]⟩ : ByteArray)]⟩ : Sl ByteArray)⟩ : AirwayR)]) (⟨#[65]⟩ : ByteArray) (⟨#[68]⟩ : ByteArray) w (Rd.lit hM 4 _ rfl (by kernel_rfl) (by kernel_rfl) (by kernel_rfl)) (Nat.le_refl _) (Rd.lit hM 1 _ rfl (by kernel_rfl) (by kernel_rfl) (by kernel_rfl)) (Nat.le_refl _) (all_cons ⟨(Rd.lit hM 3 _ rfl (by kernel_rfl) (by kernel_rfl) (by kernel_rfl)), (Nat.le_refl _)⟩ (all_cons ⟨(Rd.lit hM 2 _ rfl (by kernel_rfl) (by kernel_rfl) (by kernel_rfl)), (Nat.le_refl _)⟩ all_nil)) rfl sg) {} (fun r1 hr1 => ?_)
  rintro ⟨A, c⟩
  refine TL.know (fun w hM => hM.short_at 0 rfl) (fun s_r1_0 => ?_)
  refine TL.r 9 [] [(2, .slice A r1.1.length c), (3, .int .i64 r1.2.1), (4, .int .i64 r1.2.2)] {} ?_
  refine TL.next rfl ?_
  refine TC.seq ?_
  refine TC.region ?_
  refine TL.r 1 [1] [(29, .agg #[.slice (some ⟨b1, 0, none⟩) 4 4, .slice (some ⟨b4, 0, none⟩) 2 2])] {} ?_
  refine TL.cn (Γ := (Option Addr × Nat)) 30 (shortest_Second (⟨[(⟨(⟨#[65]⟩ : ByteArray), ⟨0, 0⟩⟩ : Fix), (⟨(⟨#[66]⟩ : ByteArray), ⟨5, 0⟩⟩ : Fix), (⟨(⟨#[67]⟩ : ByteArray), ⟨5, 3⟩⟩ : Fix), (⟨(⟨#[68]⟩ : ByteArray), ⟨10, 0⟩⟩ : Fix)], [(⟨(⟨#[85, 49]⟩ : ByteArray), [(⟨#[65]⟩ : ByteArray), (⟨#[66]⟩ : ByteArray), (⟨#[68]⟩ : ByteArray)]⟩ : Airway), (⟨(⟨#[85, 50]⟩ : ByteArray), [(⟨#[65]⟩ : ByteArray), (⟨#[67]⟩ : ByteArray), (⟨#[68]⟩ : ByteArray)]⟩ : Airway)]⟩ : Chart) (⟨#[65]⟩ : ByteArray) (⟨#[68]⟩ : ByteArray)) (fun r2 g => .tuple #[.slice g.1 r2.1.length g.2, .int .i64 r2.2.1, .int .i64 r2.2.2]) (fun r2 g => [.inr (Own g.1 g.2 9 1 (r2.1.map sc))]) (fun w hM => shortest_Second_w (⟨[(⟨(⟨#[65]⟩ : ByteArray), ⟨0, 0⟩⟩ : Fix), (⟨(⟨#[66]⟩ : ByteArray), ⟨5, 0⟩⟩ : Fix), (⟨(⟨#[67]⟩ : ByteArray), ⟨5, 3⟩⟩ : Fix), (⟨(⟨#[68]⟩ : ByteArray), ⟨10, 0⟩⟩ : Fix)], [(⟨(⟨#[85, 49]⟩ : ByteArray), [(⟨#[65]⟩ : ByteArray), (⟨#[66]⟩ : ByteArray), (⟨#[68]⟩ : ByteArray)]⟩ : Airway), (⟨(⟨#[85, 50]⟩ : ByteArray), [(⟨#[65]⟩ : ByteArray), (⟨#[67]⟩ : ByteArray), (⟨#[68]⟩ : ByteArray)]⟩ : Airway)]⟩ : Chart) (some ⟨b1, 0, none⟩) 4 (some ⟨b4, 0, none⟩) 2 ([(⟨(⟨#[85, 49]⟩ : ByteArray), (⟨(some ⟨b2, 0, none⟩), 3, [(⟨#[65]⟩ : ByteArray), (⟨#[66]⟩ : ByteArray), (⟨#[68]⟩ : ByteArray)]⟩ : Sl ByteArray)⟩ : AirwayR), (⟨(⟨#[85, 50]⟩ : ByteArray), (⟨(some ⟨b3, 0, none⟩), 3, [(⟨#[65]⟩ : ByteArray), (⟨#[67]⟩ : ByteArray), (⟨#[68]⟩ : ByteArray)]⟩ : Sl ByteArray)⟩ : AirwayR)]) (⟨#[65]⟩ : ByteArray) (⟨#[68]⟩ : ByteArray) w (Rd.lit hM 5 _ rfl (by kernel_rfl) (by kernel_rfl) (by kernel_rfl)) (Nat.le_refl _) (Rd.lit hM 2 _ rfl (by kernel_rfl) (by kernel_rfl) (by kernel_rfl)) (Nat.le_refl _) (all_cons ⟨(Rd.lit hM 4 _ rfl (by kernel_rfl) (by kernel_rfl) (by kernel_rfl)), (Nat.le_refl _)⟩ (all_cons ⟨(Rd.lit hM 3 _ rfl (by kernel_rfl) (by kernel_rfl) (by kernel_rfl)), (Nat.le_refl _)⟩ all_nil)) rfl sg) {} (fun r2 hr2 => ?_)
  rintro ⟨A_2, c_2⟩
  refine TL.know (fun w hM => hM.short_at 0 rfl) (fun s_r2_0 => ?_)
  refine TL.r 9 [] [(5, .slice A_2 r2.1.length c_2), (6, .int .i64 r2.2.1), (7, .int .i64 r2.2.2)] {} ?_
  refine TL.next rfl ?_
  refine TC.seq ?_
  refine TC.region ?_
  refine TL.r 3 [] [(36, .bool (r1.2.2 == 0))] {} ?_
  refine TL.j 36 (r1.2.2 == 0) 6 [] [] (fun β => [(39, .bool (β && (r1.2.1 == 10)))]) (by kernel_rfl) {} {} ?_
  refine TL.r 7 [] [(40, .bool ((r1.2.2 == 0) && (r1.2.1 == 10)))] {} ?_
  refine TL.split 40 ((r1.2.2 == 0) && (r1.2.1 == 10)) (by kernel_rfl) (fun h1 => ?_) (fun h1 => ?_)
  · refine TL.r 8 [] [(41, .slice A r1.1.length c)] {} ?_
    refine TL.nw 42 (fun b6 => .slice (some ⟨b6, 0, none⟩) 3 3) (fun b6 => .inl (b6, .cells #[.string (⟨#[65]⟩ : ByteArray), .string (⟨#[66]⟩ : ByteArray), .string (⟨#[68]⟩ : ByteArray)] 9 (0, 0))) (fun b6 => {}) (fun b6 => ?_)
    refine TL.c 43 (skywayref1_SameTexts r1.1 ([(⟨#[65]⟩ : ByteArray), (⟨#[66]⟩ : ByteArray), (⟨#[68]⟩ : ByteArray)])) (fun r3 => .bool r3) (fun w hM => skywayref1_SameTexts_w A c r1.1 (some ⟨b6, 0, none⟩) 3 ([(⟨#[65]⟩ : ByteArray), (⟨#[66]⟩ : ByteArray), (⟨#[68]⟩ : ByteArray)]) w (hM.rd_at 2 rfl) (hM.le_at 2 rfl) (Rd.lit hM 0 _ rfl (by kernel_rfl) (by kernel_rfl) (by kernel_rfl)) (Nat.le_refl _)) {} (fun r3 hr3 => ?_)
    refine TL.r 12 [] [(45, .bool r3)] {} ?_
    refine TL.j 45 r3 15 [] [] (fun β => [(48, .bool (β && (r2.2.2 == 0)))]) (by kernel_rfl) {} {} ?_
    refine TL.r 16 [] [(49, .bool (r3 && (r2.2.2 == 0)))] {} ?_
    refine TL.j 49 (r3 && (r2.2.2 == 0)) 19 [] [] (fun β => [(52, .bool (β && (r2.2.1 == 12)))]) (by kernel_rfl) {} {} ?_
    refine TL.r 20 [] [(53, .bool ((r3 && (r2.2.2 == 0)) && (r2.2.1 == 12)))] {} ?_
    refine TL.split 53 ((r3 && (r2.2.2 == 0)) && (r2.2.1 == 12)) (by kernel_rfl) (fun h2 => ?_) (fun h2 => ?_)
    · refine TL.r 21 [] [(54, .slice A_2 r2.1.length c_2)] {} ?_
      refine TL.nw 55 (fun b7 => .slice (some ⟨b7, 0, none⟩) 3 3) (fun b7 => .inl (b7, .cells #[.string (⟨#[65]⟩ : ByteArray), .string (⟨#[67]⟩ : ByteArray), .string (⟨#[68]⟩ : ByteArray)] 9 (0, 0))) (fun b7 => {}) (fun b7 => ?_)
      refine TL.c 56 (skywayref1_SameTexts r2.1 ([(⟨#[65]⟩ : ByteArray), (⟨#[67]⟩ : ByteArray), (⟨#[68]⟩ : ByteArray)])) (fun r4 => .bool r4) (fun w hM => skywayref1_SameTexts_w A_2 c_2 r2.1 (some ⟨b7, 0, none⟩) 3 ([(⟨#[65]⟩ : ByteArray), (⟨#[67]⟩ : ByteArray), (⟨#[68]⟩ : ByteArray)]) w (hM.rd_at 2 rfl) (hM.le_at 2 rfl) (Rd.lit hM 0 _ rfl (by kernel_rfl) (by kernel_rfl) (by kernel_rfl)) (Nat.le_refl _)) {} (fun r4 hr4 => ?_)
      refine TL.r 25 [] [(0, .bool r4)] {} ?_
      refine TL.next rfl ?_
      refine TC.ret ?_
      exact TE.ret [] (.bool r4) {} (by unfold skywaylaw1_shortestWorks; refine eS (fun z => (.bool z : Value)) ?_; subst hr1 hr2 hr3 hr4; exact cond_t h1 (cond_t h2 (rfl)))
    · refine TL.r 25 [] [(0, .bool false)] {} ?_
      refine TL.next rfl ?_
      refine TC.ret ?_
      exact TE.ret [] (.bool false) {} (by unfold skywaylaw1_shortestWorks; refine eS (fun z => (.bool z : Value)) ?_; subst hr1 hr2 hr3; exact cond_t h1 (cond_f h2 (rfl)))
  · refine TL.r 25 [] [(0, .bool false)] {} ?_
    refine TL.next rfl ?_
    refine TC.ret ?_
    exact TE.ret [] (.bool false) {} (by unfold skywaylaw1_shortestWorks; refine eS (fun z => (.bool z : Value)) ?_; subst hr1 hr2; exact cond_f h1 (rfl))
end Go.Sky
end
section
namespace Go.Sky
open Go Go.Eng Go.Srt
def chart0 : Chart := ⟨[⟨⟨#[65]⟩, ⟨0, 0⟩⟩, ⟨⟨#[66]⟩, ⟨5, 0⟩⟩, ⟨⟨#[67]⟩, ⟨5, 3⟩⟩, ⟨⟨#[68]⟩, ⟨10, 0⟩⟩], [⟨⟨#[85, 49]⟩, [⟨#[65]⟩, ⟨#[66]⟩, ⟨#[68]⟩]⟩, ⟨⟨#[85, 50]⟩, [⟨#[65]⟩, ⟨#[67]⟩, ⟨#[68]⟩]⟩]⟩
theorem chk0 : chart_Check chart0 = 0 := by kernel_rfl
theorem ix0a : chart_index chart0 ⟨#[65]⟩ = 0 := by kernel_rfl
theorem ix0d : chart_index chart0 ⟨#[68]⟩ = 3 := by kernel_rfl
theorem ways0 : ways1 chart0 ⟨#[68]⟩ 8 ⟨[⟨#[65]⟩], 0⟩ [] = [⟨[⟨#[65]⟩, ⟨#[66]⟩, ⟨#[68]⟩], 10⟩, ⟨[⟨#[65]⟩, ⟨#[67]⟩, ⟨#[68]⟩], 12⟩] := by kernel_rfl
theorem path0 : shortest_Path chart0 ⟨#[65]⟩ ⟨#[68]⟩ = ([⟨#[65]⟩, ⟨#[66]⟩, ⟨#[68]⟩], 10, 0) ∧ shortest_Second chart0 ⟨#[65]⟩ ⟨#[68]⟩ = ([⟨#[65]⟩, ⟨#[67]⟩, ⟨#[68]⟩], 12, 0) := by
  rcases ends_no (c := chart0) (a := ⟨#[65]⟩) (b := ⟨#[68]⟩) (by decide) chk0 with ⟨_, _, h⟩ | ⟨h, _⟩
  · rcases ends_ok (c := chart0) (by decide) chk0 rfl h with ⟨g, _⟩ | ⟨w, g, _⟩ | ⟨w, w2, g, g1, g2⟩
    · rw [ways0] at g; cases g
    · rw [ways0] at g; cases g
    · rw [ways0] at g
      cases g
      exact ⟨g1, g2⟩
  · rw [ix0a, ix0d] at h
    omega
theorem same_L1 : ∀ (xs l : List ByteArray) (k : Nat), l.drop k = xs → skywayref1_SameTexts_L1 l xs k = .inl ()
  | [], _, _, _ => rfl
  | x :: xs, l, k, h => by
    have hx : l[k]? = some x := by rw [← List.head?_drop, h]; rfl
    unfold skywayref1_SameTexts_L1
    rw [hx, Option.getD_some, seq_iff.2 rfl, Bool.not_true, cond_false]
    exact same_L1 xs l (k + 1) (by rw [← List.drop_drop, h]; rfl)
theorem same_self (l : List ByteArray) : skywayref1_SameTexts l l = true := by
  unfold skywayref1_SameTexts
  rw [show ((l.length : Int) != (l.length : Int)) = false by simp, cond_false, same_L1 l l 0 List.drop_zero]
  rfl
theorem works_true : skywaylaw1_shortestWorks = true := by
  unfold skywaylaw1_shortestWorks
  simp only
  have s1 : ∀ l : List ByteArray, skywayref1_SameTexts l l = true := same_self
  have p := path0
  unfold chart0 at p
  simp only [p.1, p.2, s1]
  rfl
end Go.Sky
end
section
namespace Go.Eng
open Go.RowKit
section
variable {P : Program} {n : Nat} {w0 : Ctx} {ops : Array Oper} {Q : Exit → Act → World → Prop} {F : Slots} {M : Mem}
theorem calls_introW {w : World} {f : FuncId} {fn : Func} {c : Code} {vs : List Value} {R : Ending → World → Prop} (hM : Sat w0 M w) (hf : P.funcs[f]? = some fn) (hb : fn.body = some c) (hn : fn.ntmps = n)
    (hl : Nat.ble vs.length n = true) (h : TC P n w0 (bodyPost P fn R) c (argSlots 0 vs) M) : Calls P f vs.toArray w R := by
  refine calls_of_wp hf hb (h _ _ ⟨?_, rfl, fun t v ht => ?_⟩ hM)
  · have := Nat.le_of_ble_eq_true hl
    simp [hn]; omega
  · obtain ⟨i, hi, hv⟩ := argSlots_look vs 0 t v ht
    have hlt : i < vs.length := (List.getElem?_eq_some_iff.1 hv).1
    have : t = i := by omega
    subst this
    simp only
    rw [Array.getElem?_append_left (by simpa using hlt)]
    simpa using hv
theorem TL.callF {Γ : Type} (v : Γ → Value) (Mn : Γ → Mem) (d : Option Tmp) (F' : Γ → Slots) {i : Nat} {f : FuncId} {args : Array Value}
    (hc : ∀ w, Sat w0 M w → Calls P f args w (RetM w0 v Mn))
    (hs : callAt P ops.toList F i = some (f, args, d)) (hp : ∀ g, pickD (F' g) (putD n F d (v g)) = some (F' g)) (h : ∀ g, TL P n w0 ops Q (i + 1) (F' g) (Mn g)) : TL P n w0 ops Q i F M := by
  intro a w hF hM
  obtain ⟨o, h1, h2, h3, h4⟩ := callAt_spec hF hs
  rw [h1]
  refine wpList_of_wp h2 ?_
  unfold Oper.wp
  rw [h3 w]
  refine (hc w hM).mono fun e w' he => ?_
  obtain ⟨g, rfl, hb⟩ := he
  subst h4
  exact h g _ w' (pickD_spec hF (hp g)) hb
end
structure SRd (w0 : Ctx) (sz : Nat) (A : Option Addr) (rows : List (Array Value)) : Prop where
  short : rows.length < 4611686018427387904
  sat : ∀ {M : Mem} {w : World}, Sat w0 M w → Rd w sz A rows
theorem SRd.of {w : World} {D : Nat → Prop} {sz : Nat} {A : Option Addr} {rows : List (Array Value)} (h : Rd w sz A rows) (hD : ∀ (a : Addr) (i : Nat) (r : Array Value), A = some a → rows[i]? = some r → ¬ D a.block) : SRd ⟨w, D⟩ sz A rows :=
  ⟨h.short, fun {M w'} hM => ⟨h.short, fun i r hi => by
    obtain ⟨h1, ad, h2, h3, h4⟩ := h.row i r hi
    have hb : w'.heap[ad.block]? = w.heap[ad.block]? := hM.chg.block ad.block h3 (hD ad i r h2 hi)
    refine ⟨h1, ad, h2, Nat.lt_of_lt_of_le h3 hM.chg.size, fun j v hv => ?_⟩
    rw [← h4 j v hv]
    unfold World.cell?
    have e : (ad.add (i * sz + j)).block = ad.block := add_block' ..
    simp only [e, hb]⟩⟩
theorem SRd.old {w w' : World} {Mp Mr : Mem} {sz : Nat} {A : Option Addr} {rows : List (Array Value)} (h : Rd w sz A rows) (hM : Sat (cx w) (Mp ++ Mr) w') : SRd ⟨w', feet Mp⟩ sz A rows :=
  SRd.of (h.sat hM) fun a i r hA hr hf => by
    obtain ⟨e, he, hb⟩ := hf
    obtain ⟨_, ad, h2, h3, _⟩ := h.row i r hr
    rw [hA] at h2
    cases h2
    rcases (hM.own e (List.mem_append_left _ he)).2 _ hb with h4 | h4
    · exact h4
    · exact absurd h3 (Nat.not_lt_of_le h4)
theorem SRd.own {w w' : World} {Mp Mr : Mem} {sz b T : Nat} {cs : Array Value} {rows : List (Array Value)} (hM : Sat (cx w) (Mp ++ Mr) w') (hm : (.inl (b, .cells cs T (0, 0)) : Ent) ∈ Mr) (h : Rd w' sz (some ⟨b, 0, none⟩) rows) : SRd ⟨w', feet Mp⟩ sz (some ⟨b, 0, none⟩) rows :=
  SRd.of h fun a i r hA _ hf => by
    obtain ⟨e, he, hb⟩ := hf
    cases hA
    exact (List.pairwise_append.1 hM.apart).2.2 e he _ hm b hb rfl
theorem Sat.bag_sub {α : Type} {w0 : Ctx} {w : World} {M : Mem} {e sz : Nat} {c : α → Array Value} {l l' : List (Sl α)} (h : Sat w0 (.inr (Bag e sz c l) :: M) w) (hs : ∀ s ∈ l', s ∈ l) : Sat w0 (.inr (Bag e sz c l') :: M) w := by
  refine Sat.recast (Mp := [.inr (Bag e sz c l)]) (Mn := [.inr (Bag e sz c l')]) h ?_ ?_ (by simp)
  · intro e' he
    rw [List.mem_singleton] at he
    subst he
    exact fun s hm => h.res (j := 0) rfl s (hs s hm)
  · intro e' he b hb
    rw [List.mem_singleton] at he
    subst he
    obtain ⟨s, hm, hf⟩ := hb
    exact ⟨_, List.mem_singleton.2 rfl, s, hs s hm, hf⟩
def Pack (M : Mem) : Res where
  foot := feet M
  holds w := (∀ e ∈ M, holdsE e w) ∧ M.Pairwise apartE
  lt w h b hb := by
    obtain ⟨e, he, hf⟩ := hb
    exact ltE (h.1 e he) b hf
  kept w w' h hk := ⟨fun e he => keptE (h.1 e he) fun b hb => hk b ⟨e, he, hb⟩, h.2⟩
theorem Sat.pack {w0 : Ctx} {w : World} {M1 M2 : Mem} (h : Sat w0 (M1 ++ M2) w) : Sat w0 (M1 ++ [.inr (Pack M2)]) w := by
  have hp := List.pairwise_append.1 h.apart
  refine ⟨h.chg, fun e he => ?_, List.pairwise_append.2 ⟨hp.1, List.pairwise_singleton .., fun a ha b hb => ?_⟩⟩
  · rcases List.mem_append.1 he with he | he
    · exact h.own e (List.mem_append_left _ he)
    · rw [List.mem_singleton] at he
      subst he
      refine ⟨⟨fun e he => (h.own e (List.mem_append_right _ he)).1, hp.2.1⟩, fun b hb => ?_⟩
      obtain ⟨e, he, hf⟩ := hb
      exact (h.own e (List.mem_append_right _ he)).2 b hf
  · rw [List.mem_singleton] at hb
    subst hb
    intro x h1 h2
    obtain ⟨e, he, hf⟩ := h2
    exact hp.2.2 a ha e he x h1 hf
theorem Sat.unpack {w0 : Ctx} {w : World} {M1 M2 : Mem} (h : Sat w0 (M1 ++ [.inr (Pack M2)]) w) : Sat w0 (M1 ++ M2) w := by
  have hp := List.pairwise_append.1 h.apart
  have hq := h.own (.inr (Pack M2)) (List.mem_append_right _ (List.mem_singleton.2 rfl))
  refine ⟨h.chg, fun e he => ?_, List.pairwise_append.2 ⟨hp.1, hq.1.2, fun a ha e he b h1 h2 => ?_⟩⟩
  · rcases List.mem_append.1 he with he | he
    · exact h.own e (List.mem_append_left _ he)
    · exact ⟨hq.1.1 e he, fun b hb => hq.2 b ⟨e, he, hb⟩⟩
  · exact hp.2.2 a ha _ (List.mem_singleton.2 rfl) b h1 ⟨e, he, h2⟩
theorem app_fresh {α : Type} {c : α → Array Value} {P : Program} {w0 : Ctx} {M : Mem} {t e sz bytes cap2 m : Nat} {A B : Option Addr} (ty : TypeId) (news : List α) (hT : rowType P t e sz bytes = true) (hsz : Nat.blt 0 sz = true) (hb : Nat.blt 0 bytes = true)
    (h1 : ∀ x, (c x).toList.all Value.oneCell' = true) (hr : ∀ w, Sat w0 M w → Rd w sz B (news.map c)) (hm : m = news.length) (hlen : news.length * bytes ≤ 140737488355328) (w : World) (hM : Sat w0 M w) :
    ∃ (g : Option Addr × Nat) (w' : World), (sV (Builtin.append_ #[t, t] ty #[.slice A 0 0, .slice B m cap2])).run P w = .ok (.value (.slice g.1 news.length g.2)) w' ∧ Sat w0 (.inr (Own g.1 g.2 e sz (news.map c)) :: M) w' := by
  obtain ⟨g, w', h2, h3⟩ := app_at (M := .inr (Own A 0 e sz (([] : List α).map c)) :: M) (l := ([] : List α)) (cap := 0) (A := A) (cap2 := cap2) (c := c) (P := P) ty 0 news hT hsz hb h1 rfl (fun w hM => hr w (hM.sub (List.sublist_cons_self ..))) hm (by rw [List.length_nil, Nat.zero_add]; exact hlen) w (hM.emptyrow A e sz)
  exact ⟨g, w', h2, h3⟩
section
variable {G : Type} {P : Program} {n : Nat} {w0 : Ctx} {ops : Array Oper} {base : Slots} {vals : G → List Value} {writes : List Nat} {mem : List Bool → G → Mem}
theorem Steps.opX {Γ : Type} (set : Γ → G → G) (D : List Nat) (s : G → Sem Next) (d : Option Tmp) (v : Γ → G → Value) {i : Nat}
    (hv : ∀ S γ w, S i = false → (∀ e : Nat, (aftAt ops.toList i).contains e = true → S e = true) → (∀ j k : Nat, (aftAt ops.toList k).contains j = true → S k = true → S j = true) → Sat w0 (mem (writes.map S) γ) w →
      ∃ g w', (s γ).run P w = .ok (.value (v g γ)) w' ∧ Sat w0 (mem (writes.map (upS S i)) (set g γ)) w')
    (hs : ∀ γ, semAt ops.toList (allS ops.toList base (vals γ)) i = some (s γ, d)) (hval : ∀ γ g, (vals (set g γ))[i]? = some (v g γ))
    (hD : depB ops.toList i D = true) (hmask : ∀ γ g, maskL D 0 (vals (set g γ)) = maskL D 0 (vals γ))
    (h : Steps P w0 ops base vals writes mem (ops.toList.drop (i + 1)) (i + 1)) : Steps P w0 ops base vals writes mem (ops.toList.drop i) i := by
  refine Steps.cons_of (fun o ho S γ w hSi hd hc hMw => ?_) h
  obtain ⟨o', h1, h2, h3, h4⟩ := semAt_get (hs γ)
  rw [ho] at h1
  simp only [Option.some.injEq] at h1
  subst h1
  rw [h2]
  simp only
  unfold GivesK
  obtain ⟨g, w', hr, hM'⟩ := hv S γ w hSi (fun e he => hd e (by unfold aftAt at he; rw [ho] at he; simpa using he)) (fun j k hjk hk => by
    unfold aftAt at hjk
    split at hjk
    · rename_i o2 ho2
      exact hc k o2 ho2 hk j (by simpa using hjk)
    · simp at hjk) hMw
  rw [h3, hr]
  exact ⟨set g γ, agree hD hSi hc (hmask γ g), hval γ g, hM'⟩
theorem Steps.putX (s : G → Sem Next) (d : Option Tmp) {i : Nat}
    (hv : ∀ S γ w, S i = false → (∀ e : Nat, (aftAt ops.toList i).contains e = true → S e = true) → (∀ j k : Nat, (aftAt ops.toList k).contains j = true → S k = true → S j = true) → Sat w0 (mem (writes.map S) γ) w →
      ∃ w', (s γ).run P w = .ok .skip w' ∧ Sat w0 (mem (writes.map (upS S i)) γ) w')
    (hs : ∀ γ, semAt ops.toList (allS ops.toList base (vals γ)) i = some (s γ, d)) (hval : ∀ γ, (vals γ)[i]? = some undef)
    (h : Steps P w0 ops base vals writes mem (ops.toList.drop (i + 1)) (i + 1)) : Steps P w0 ops base vals writes mem (ops.toList.drop i) i := by
  refine Steps.cons_of (fun o ho S γ w hSi hd hc hMw => ?_) h
  obtain ⟨o', h1, h2, h3, h4⟩ := semAt_get (hs γ)
  rw [ho] at h1
  simp only [Option.some.injEq] at h1
  subst h1
  rw [h2]
  simp only
  unfold GivesK
  obtain ⟨w', hr, hM'⟩ := hv S γ w hSi (fun e he => hd e (by unfold aftAt at he; rw [ho] at he; simpa using he)) (fun j k hjk hk => by
    unfold aftAt at hjk
    split at hjk
    · rename_i o2 ho2
      exact hc k o2 ho2 hk j (by simpa using hjk)
    · simp at hjk) hMw
  rw [h3, hr]
  exact ⟨γ, fun _ _ => rfl, hval γ, hM'⟩
end
end Go.Eng
end
