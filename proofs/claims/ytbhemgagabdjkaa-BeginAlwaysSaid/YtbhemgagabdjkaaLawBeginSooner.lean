/- The law BeginSooner in plain Lean. Conditions: none. -/
import Derived.Test.YtbhemgagabdjkaaWg
import Derived.Test.YtbhemgagabdjkaaBegTwo
import Derived.Test.YtbhemgagabdjkaaOk
namespace Go.Sky
open Go Go.Eng Go.Glue

/-- What a run comes to. -/
def runR (need of_ : Int) (l : List Bool) (k : Nat) (b : BeginState) : Int × Int × Int := Sum.elim (fun _ => (0, 0, 0)) (fun r => r) (begin_Run_L1 need of_ l k b)

theorem runR_cons {H n : Nat} {s : Int} (x : Bool) (xs : List Bool) (k : Nat) (need : Int) (hH : H < 65536) (hs : 0 ≤ s ∧ s ≤ 16) (hn : 1 ≤ n ∧ n ≤ 16) (hk : k < 1000) :
    runR need (n : Int) (x :: xs) k ⟨(H : Int), s⟩ = if verdict (pushN H x) (min 16 (s + 1)) need n > 0 then ((k : Int) + 1, verdict (pushN H x) (min 16 (s + 1)) need n, 0) else runR need (n : Int) xs (k + 1) ⟨(pushN H x : Int), min 16 (s + 1)⟩ := by
  unfold runR
  rw [begin_Run_L1]
  simp only [step_eq x need hH hs hn, ite_of_cond, decide_eq_true_eq]
  split
  · rw [w64_id (by omega)]; rfl
  · rfl

theorem verdict_cases (H : Nat) (s need : Int) (n : Nat) : verdict H s need n = 0 ∨ verdict H s need n = 1 ∨ verdict H s need n = 2 := by
  unfold verdict
  split
  · simp
  · split
    · simp
    · split <;> simp

theorem verdict_mono {H H' : Nat} (h : Sub H H') (s need : Int) (n : Nat) : (verdict H s need n = 1 → verdict H' s need n = 1) ∧ (verdict H s need n = 0 → verdict H' s need n ≠ 2) := by
  have h1 := h.count n
  have h2 := alive_mono h need n (n - 1) 0
  unfold verdict
  by_cases c1 : (pcN n H : Int) ≥ need
  · rw [if_pos c1, if_pos (show (pcN n H' : Int) ≥ need by omega)]
    exact ⟨fun _ => rfl, (fun h => by omega)⟩
  · rw [if_neg c1]
    by_cases c2 : (pcN n H' : Int) ≥ need
    · rw [if_pos c2]; exact ⟨fun _ => rfl, (fun _ h => by omega)⟩
    · rw [if_neg c2]
      by_cases c3 : s < n
      · rw [if_pos c3]; exact ⟨(fun h => by omega), (fun _ h => by omega)⟩
      · rw [if_neg c3, if_neg c3]
        by_cases c4 : alive H need n (n - 1) 0 = true
        · rw [if_pos c4, if_pos (h2 c4)]; exact ⟨(fun h => by omega), (fun _ h => by omega)⟩
        · rw [if_neg c4]; exact ⟨(fun h => by omega), (fun h => by omega)⟩

/-- Each hit of the first is one of the second. -/
def Hits : List Bool → List Bool → Prop
  | [], [] => True
  | x :: xs, y :: ys => (x = true → y = true) ∧ Hits xs ys
  | _, _ => False

theorem run_mono {n : Nat} (hn : 1 ≤ n ∧ n ≤ 16) (need : Int) : ∀ (xs ys : List Bool) (k H H' : Nat) (s : Int), Hits xs ys → Sub H H' → H < 65536 → H' < 65536 → 0 ≤ s ∧ s ≤ 16 → k + xs.length < 1000 →
    (runR need (n : Int) xs k ⟨(H : Int), s⟩).2.2 = 0 ∧ (runR need (n : Int) ys k ⟨(H' : Int), s⟩).2.2 = 0 ∧
    ((runR need (n : Int) xs k ⟨(H : Int), s⟩).2.1 = 1 → (k : Int) < (runR need (n : Int) xs k ⟨(H : Int), s⟩).1 ∧ (runR need (n : Int) ys k ⟨(H' : Int), s⟩).2.1 = 1 ∧ (runR need (n : Int) ys k ⟨(H' : Int), s⟩).1 ≤ (runR need (n : Int) xs k ⟨(H : Int), s⟩).1)
  | [], [], k, H, H', s, _, _, _, _, _, _ => ⟨rfl, rfl, fun h => by cases h⟩
  | [], _ :: _, _, _, _, _, h, _, _, _, _, _ => h.elim
  | _ :: _, [], _, _, _, _, h, _, _, _, _, _ => h.elim
  | x :: xs, y :: ys, k, H, H', s, h, hS, hH, hH', hs, hk => by
    simp only [List.length_cons] at hk
    have hS2 : Sub (pushN H x) (pushN H' y) := hS.push h.1
    have ih := run_mono hn need xs ys (k + 1) (pushN H x) (pushN H' y) (min 16 (s + 1)) h.2 hS2 (pushN_lt H x) (pushN_lt H' y) (by omega) (by omega)
    have hm := verdict_mono hS2 (min 16 (s + 1)) need n
    rw [runR_cons x xs k need hH hs hn (by omega), runR_cons y ys k need hH' hs hn (by omega)]
    rcases verdict_cases (pushN H x) (min 16 (s + 1)) need n with e | e | e <;> rcases verdict_cases (pushN H' y) (min 16 (s + 1)) need n with e' | e' | e'
    · rw [e, e', if_neg (by decide), if_neg (by decide)]
      exact ⟨ih.1, ih.2.1, fun h1 => by have := ih.2.2 h1; omega⟩
    · rw [e, e', if_neg (by decide), if_pos (by decide)]
      exact ⟨ih.1, rfl, fun h1 => by have := ih.2.2 h1; exact ⟨by omega, rfl, by simp only; omega⟩⟩
    · exact absurd e' (hm.2 e)
    · have := hm.1 e; omega
    · rw [e, e', if_pos (by decide)]
      exact ⟨rfl, rfl, fun _ => ⟨by simp only; omega, rfl, Int.le_refl _⟩⟩
    · have := hm.1 e; omega
    · rw [e, e', if_pos (by decide), if_neg (by decide)]
      exact ⟨rfl, ih.2.1, fun h1 => by cases h1⟩
    · rw [e, e', if_pos (by decide), if_pos (by decide)]
      exact ⟨rfl, rfl, fun h1 => by cases h1⟩
    · rw [e, e', if_pos (by decide)]
      exact ⟨rfl, rfl, fun h1 => by cases h1⟩

theorem hits_of_get : ∀ (xs ys : List Bool), xs.length = ys.length → (∀ i : Nat, xs[i]?.getD false = true → ys[i]?.getD false = true) → Hits xs ys
  | [], [], _, _ => trivial
  | [], _ :: _, h, _ => by cases h
  | _ :: _, [], h, _ => by cases h
  | x :: xs, y :: ys, hl, h => ⟨fun hx => by have := h 0 (by simpa using hx); simpa using this, hits_of_get xs ys (by simpa using hl) fun i hi => by have := h (i + 1) (by simpa using hi); simpa using this⟩

theorem sooner_L1 (more : List Bool) : ∀ (m k : Nat) (l : List Bool), (skywaykeep2_BeginSooner_L1 more m k l).length = l.length ∧ ∀ i : Nat, l[i]?.getD false = true → (skywaykeep2_BeginSooner_L1 more m k l)[i]?.getD false = true
  | 0, _, _ => ⟨rfl, fun _ h => h⟩
  | m + 1, k, l => by
    have key : ∀ v : Bool, (l[k]?.getD false = true → v = true) → (skywaykeep2_BeginSooner_L1 more m (k + 1) (l.set k v)).length = l.length ∧
        ∀ i : Nat, l[i]?.getD false = true → (skywaykeep2_BeginSooner_L1 more m (k + 1) (l.set k v))[i]?.getD false = true := fun v hv => by
      obtain ⟨i1, i2⟩ := sooner_L1 more m (k + 1) (l.set k v)
      refine ⟨by rw [i1, List.length_set], fun i hi => i2 i ?_⟩
      rw [List.getElem?_set]
      by_cases e : k = i
      · subst e
        rw [if_pos rfl]
        have hlt : k < l.length := by
          rcases Nat.lt_or_ge k l.length with h | h
          · exact h
          · rw [List.getElem?_eq_none h] at hi; cases hi
        rw [if_pos hlt]; exact hv hi
      · rw [if_neg e]; exact hi
    rw [skywaykeep2_BeginSooner_L1]
    simp only [ite_of_cond]
    split
    · exact key true fun _ => rfl
    · rename_i h0
      split
      · exact key _ fun h => absurd h h0
      · exact key false fun h => absurd h h0

theorem rule_n {need of_ : Int} (h : begin_CheckRule need of_ = 0) : ∃ n : Nat, of_ = (n : Int) ∧ 1 ≤ n ∧ n ≤ 16 := by
  have := rule_of (r := 0) h rfl
  exact ⟨of_.toNat, by omega, by omega, by omega⟩

theorem BeginSooner_true (x0 x1 : List Bool) (x2 x3 : Int) (_s0 : x0.length < 4611686018427387904) (_k0 : ∀ a ∈ x0, True) (_s1 : x1.length < 4611686018427387904) (_k1 : ∀ a ∈ x1, True) (_k2 : I64 x2) (_k3 : I64 x3) : skywaykeep2_BeginSooner x0 x1 x2 x3 = true := by
  unfold skywaykeep2_BeginSooner
  have e0 : ((((begin_Run [true, true] 2 2).2.2 != 0) || ((begin_Run [true, true] 2 2).1 != 2)) || ((begin_Run [true, true] 2 2).2.1 != 1)) = false := by decide
  simp only [e0, cond_false, bindv]
  obtain ⟨l, hl⟩ : ∃ l, l = x0.take (imin (x0.length : Int) 30).toNat := ⟨_, rfl⟩
  have hlen : l.length ≤ 30 := by
    have := imin_r (x0.length : Int) 30
    rw [hl, List.length_take]; omega
  have hc : slices_Clone_bool_bool l = l := rfl
  rw [← hl, hc]
  obtain ⟨a1, a2⟩ := sooner_L1 x1 l.length 0 l
  obtain ⟨ys, hys⟩ : ∃ ys, ys = skywaykeep2_BeginSooner_L1 x1 l.length 0 l := ⟨_, rfl⟩
  rw [← hys] at a1 a2 ⊢
  have hh : Hits l ys := hits_of_get l ys a1.symm a2
  have q1 : decide ((l.length : Int) > 256) = false := by simp; omega
  have q2 : decide ((ys.length : Int) > 256) = false := by simp; omega
  by_cases hr : begin_CheckRule x2 x3 = 0
  · obtain ⟨n, rfl, hn⟩ := rule_n hr
    have e1 : begin_Run l x2 (n : Int) = runR x2 (n : Int) l 0 ⟨0, 0⟩ := by unfold begin_Run; rw [q1, hr]; rfl
    have e2 : begin_Run ys x2 (n : Int) = runR x2 (n : Int) ys 0 ⟨0, 0⟩ := by unfold begin_Run; rw [q2, hr]; rfl
    have h := run_mono hn x2 l ys 0 0 0 0 hh (Sub.refl 0) (by omega) (by omega) (by omega) (by omega)
    rw [e1, e2]
    have z : (⟨((0 : Nat) : Int), 0⟩ : BeginState) = ⟨0, 0⟩ := rfl
    rw [z] at h
    rw [h.1, h.2.1]
    simp only [ite_of_cond]
    rw [if_pos (by rfl)]
    split
    · rfl
    · rename_i h1
      have h1 : (runR x2 (n : Int) l 0 ⟨0, 0⟩).2.1 = 1 := by simpa using h1
      have h2 := h.2.2 h1
      rw [h2.2.1]
      simpa using h2.2.2
  · have hr2 : (begin_CheckRule x2 x3 != 0) = true := by simpa using hr
    have e1 : begin_Run l x2 x3 = (0, 0, begin_CheckRule x2 x3) := by unfold begin_Run; rw [q1, cond_false]; simp only [hr2, cond_true]
    have e2 : begin_Run ys x2 x3 = (0, 0, begin_CheckRule x2 x3) := by unfold begin_Run; rw [q2, cond_false]; simp only [hr2, cond_true]
    rw [e1, e2]
    simp
end Go.Sky
