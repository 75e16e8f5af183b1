/- The law AlertPairs in plain Lean. Conditions: the arguments are 64-bit integers. -/
import Derived.Test.YtkjdmkgacmkpjaaWf
import Derived.Test.YtkjdmkgacmkpjaaKin
namespace Go.Sky
open Go Go.Eng Go.Glue

/-- The pairs that All finds for one first track, from the second track number j on. -/
def found (F : FilterTrack → FilterTrack → Int × Int) (l : List FilterTrack) (k : Nat) (x : FilterTrack) : Nat → Nat → List AlertPair
  | 0, _ => []
  | m + 1, j => (if (F x (l[(((k : Int) + 1) + (j : Int)).toNat]?.getD FilterTrack.zero)).2 = 0 then [⟨(k : Int), ((k : Int) + 1) + (j : Int), (F x (l[(((k : Int) + 1) + (j : Int)).toNat]?.getD FilterTrack.zero)).1⟩] else []) ++ found F l k x m (j + 1)
def founds (F : FilterTrack → FilterTrack → Int × Int) (l : List FilterTrack) : List FilterTrack → Nat → List AlertPair
  | [], _ => []
  | x :: xs, k => found F l k x (((l.length : Int) - ((k : Int) + 1)).toNat) 0 ++ founds F l xs (k + 1)

theorem all_L2 (l : List FilterTrack) (s : Sep) (sec acc cl : Int) (k : Nat) (x : FilterTrack) : ∀ (m j : Nat) (a : List AlertPair),
    alert_All_L2 l s sec acc cl k x m j a = .inl (a ++ found (fun x y => alert_First x y s sec acc cl) l k x m j) ∨ ∃ e, e ≠ 0 ∧ alert_All_L2 l s sec acc cl k x m j a = .inr ([], e)
  | 0, j, a => .inl (by simp [alert_All_L2, found])
  | m + 1, j, a => by
    unfold alert_All_L2 found
    generalize hr : alert_First x (l[(((k : Int) + 1) + (j : Int)).toNat]?.getD FilterTrack.zero) s sec acc cl = r
    by_cases h0 : r.2 = 0
    · have e : (r.2 == 0) = true := by simp [h0]
      simp only [e, cond_true, if_pos h0]
      rcases all_L2 l s sec acc cl k x m (j + 1) (a ++ [⟨(k : Int), ((k : Int) + 1) + (j : Int), r.1⟩]) with h | h
      · exact .inl (by rw [h, List.append_assoc])
      · exact .inr h
    · have e : (r.2 == 0) = false := by simp [h0]
      simp only [e, cond_false, if_neg h0, List.nil_append]
      by_cases h1 : r.2 = 12
      · have e1 : (r.2 == 12) = true := by simp [h1]
        simp only [e1, cond_true]
        exact all_L2 l s sec acc cl k x m (j + 1) a
      · have e1 : (r.2 == 12) = false := by simp [h1]
        by_cases h2 : r.2 = 8
        · have e2 : (r.2 == 8) = true := by simp [h2]
          simp only [e1, e2, cond_true, cond_false]
          exact all_L2 l s sec acc cl k x m (j + 1) a
        · have e2 : (r.2 == 8) = false := by simp [h2]
          simp only [e1, e2, cond_false]
          exact .inr ⟨r.2, h0, rfl⟩
theorem all_L1 (l : List FilterTrack) (s : Sep) (sec acc cl : Int) : ∀ (xs : List FilterTrack) (k : Nat) (a : List AlertPair),
    alert_All_L1 l s sec acc cl xs k a = .inl (a ++ founds (fun x y => alert_First x y s sec acc cl) l xs k) ∨ ∃ e, e ≠ 0 ∧ alert_All_L1 l s sec acc cl xs k a = .inr ([], e)
  | [], k, a => .inl (by simp [alert_All_L1, founds])
  | x :: xs, k, a => by
    unfold alert_All_L1 founds
    rcases all_L2 l s sec acc cl k x (((l.length : Int) - ((k : Int) + 1)).toNat) 0 a with h | ⟨e, he, h⟩
    · rw [h]
      simp only [Sum.elim_inl]
      rcases all_L1 l s sec acc cl xs (k + 1) (a ++ found (fun x y => alert_First x y s sec acc cl) l k x (((l.length : Int) - ((k : Int) + 1)).toNat) 0) with g | g
      · exact .inl (by rw [g, List.append_assoc])
      · exact .inr g
    · rw [h]
      exact .inr ⟨e, he, rfl⟩
theorem all_L42 : alert_All_L4 = alert_All_L2 := by
  funext l s sec acc cl k x m
  induction m with
  | zero => rfl
  | succ m ih =>
    funext j a
    unfold alert_All_L4 alert_All_L2
    rw [ih]
theorem all_L31 : alert_All_L3 = alert_All_L1 := by
  funext l s sec acc cl xs
  induction xs with
  | nil => rfl
  | cons x xs ih =>
    funext k a
    unfold alert_All_L3 alert_All_L1
    rw [ih, all_L42]

theorem All_eq (l : List FilterTrack) (s : Sep) (sec acc cl : Int) : alert_All l s sec acc cl = (founds (fun x y => alert_First x y s sec acc cl) l l 0, 0) ∨ ∃ e, e ≠ 0 ∧ alert_All l s sec acc cl = ([], e) := by
  unfold alert_All
  rw [all_L31]
  rcases all_L1 l s sec acc cl l 0 [] with h | ⟨e, he, h⟩
  · rw [h]
    simp only [Sum.elim_inl, List.nil_append]
    cases decide ((l.length : Int) > 32)
    · cases ((l.length : Int) == 1)
      · exact .inl rfl
      · simp only [cond_false, cond_true]
        cases hb : ((((alert_First (l[0]?.getD FilterTrack.zero) (l[0]?.getD FilterTrack.zero) s sec acc cl).2 != 0) && ((alert_First (l[0]?.getD FilterTrack.zero) (l[0]?.getD FilterTrack.zero) s sec acc cl).2 != 12)) && ((alert_First (l[0]?.getD FilterTrack.zero) (l[0]?.getD FilterTrack.zero) s sec acc cl).2 != 8))
        · exact .inl rfl
        · exact .inr ⟨_, by simp at hb; exact hb.1.1, rfl⟩
    · exact .inr ⟨2, by decide, rfl⟩
  · rw [h]
    simp only [Sum.elim_inr]
    cases decide ((l.length : Int) > 32)
    · cases ((l.length : Int) == 1)
      · exact .inr ⟨e, he, rfl⟩
      · simp only [cond_false, cond_true]
        cases hb : ((((alert_First (l[0]?.getD FilterTrack.zero) (l[0]?.getD FilterTrack.zero) s sec acc cl).2 != 0) && ((alert_First (l[0]?.getD FilterTrack.zero) (l[0]?.getD FilterTrack.zero) s sec acc cl).2 != 12)) && ((alert_First (l[0]?.getD FilterTrack.zero) (l[0]?.getD FilterTrack.zero) s sec acc cl).2 != 8))
        · exact .inr ⟨e, he, rfl⟩
        · exact .inr ⟨_, by simp at hb; exact hb.1.1, rfl⟩
    · exact .inr ⟨2, by decide, rfl⟩

/-- The law's own rounds find the same pairs at the same places. -/
theorem pairs_L2 {l : List FilterTrack} {s : Sep} {sec : Int} {r : List AlertPair × Int} (k : Nat) (x : FilterTrack) (hr : r.1.length < 4611686018427387904) : ∀ (m j : Nat) (n : Nat) (rest : List AlertPair),
    r.1.drop n = found (fun x y => alert_First x y s sec 1 5) (l.take (imin (l.length : Int) 4).toNat) k x m j ++ rest →
    ∃ n' : Nat, skywaykeep2_AlertPairs_L2 l s sec r k x m j (n : Int) = .inl (n' : Int) ∧ r.1.drop n' = rest ∧ n' ≤ r.1.length ∨ n > r.1.length
  | 0, j, n, rest, h => by
    by_cases hn : n ≤ r.1.length
    · exact ⟨n, .inl ⟨rfl, by simpa [found] using h, hn⟩⟩
    · exact ⟨0, .inr (by omega)⟩
  | m + 1, j, n, rest, h => by
    by_cases hn : n ≤ r.1.length
    · unfold skywaykeep2_AlertPairs_L2
      unfold found at h
      generalize hf : alert_First x ((l.take (imin (l.length : Int) 4).toNat)[(((k : Int) + 1) + (j : Int)).toNat]?.getD FilterTrack.zero) s sec 1 5 = f at h ⊢
      by_cases h0 : f.2 = 0
      · have e : (f.2 == 0) = true := by simp [h0]
        rw [if_pos h0] at h
        simp only [List.cons_append, List.nil_append] at h
        have hlt : n < r.1.length := by
          rcases Nat.lt_or_ge n r.1.length with g | g
          · exact g
          · rw [List.drop_eq_nil_of_le g] at h; cases h
        have hx : r.1[n]? = some ⟨(k : Int), ((k : Int) + 1) + (j : Int), f.1⟩ := by
          have := congrArg (fun z => z[0]?) h
          simpa using this
        have hd : r.1.drop (n + 1) = found (fun x y => alert_First x y s sec 1 5) (l.take (imin (l.length : Int) 4).toNat) k x m (j + 1) ++ rest := by
          have := congrArg (List.drop 1) h
          simpa [List.drop_drop, Nat.add_comm] using this
        have e1 : ((n : Int) == (r.1.length : Int)) = false := by simp; omega
        have e2 : (n : Int).toNat = n := by omega
        have e3 : w64 ((n : Int) + 1) = ((n + 1 : Nat) : Int) := by rw [w64_id (by omega)]; omega
        simp only [e, cond_true, e1, cond_false, e2, hx, Option.getD_some, AlertPair.eqb_eq, decide_true, Bool.not_true, e3]
        obtain ⟨n', hh | hh⟩ := pairs_L2 k x hr m (j + 1) (n + 1) rest hd
        · exact ⟨n', .inl hh⟩
        · omega
      · have e : (f.2 == 0) = false := by simp [h0]
        rw [if_neg h0, List.nil_append] at h
        simp only [e, cond_false]
        exact pairs_L2 k x hr m (j + 1) n rest h
    · exact ⟨0, .inr (by omega)⟩
theorem pairs_L1 {l : List FilterTrack} {s : Sep} {sec : Int} {r : List AlertPair × Int} (hr : r.1.length < 4611686018427387904) : ∀ (xs : List FilterTrack) (k n : Nat), n ≤ r.1.length →
    r.1.drop n = founds (fun x y => alert_First x y s sec 1 5) (l.take (imin (l.length : Int) 4).toNat) xs k →
    skywaykeep2_AlertPairs_L1 l s sec r xs k (n : Int) = .inl (r.1.length : Int)
  | [], k, n, hn, h => by
    unfold founds at h
    have : r.1.length ≤ n := by
      have := congrArg List.length h
      rw [List.length_drop] at this
      simp at this; omega
    have e : n = r.1.length := by omega
    rw [e]; rfl
  | x :: xs, k, n, hn, h => by
    unfold founds at h
    unfold skywaykeep2_AlertPairs_L1
    obtain ⟨n', ⟨h1, h2, h3⟩ | hh⟩ := pairs_L2 (l := l) (s := s) (sec := sec) k x hr _ 0 n _ h
    · rw [h1]
      simp only [Sum.elim_inl]
      exact pairs_L1 hr xs (k + 1) n' h3 h2
    · omega

theorem found_len (F : FilterTrack → FilterTrack → Int × Int) (l : List FilterTrack) (k : Nat) (x : FilterTrack) : ∀ (m j : Nat), (found F l k x m j).length ≤ m
  | 0, _ => Nat.le_refl _
  | m + 1, j => by
    unfold found
    have := found_len F l k x m (j + 1)
    rw [List.length_append]
    split
    · simp; omega
    · simp; omega
theorem founds_len (F : FilterTrack → FilterTrack → Int × Int) (l : List FilterTrack) : ∀ (xs : List FilterTrack) (k : Nat), (founds F l xs k).length ≤ xs.length * l.length
  | [], _ => Nat.zero_le _
  | x :: xs, k => by
    unfold founds
    have h1 := found_len F l k x (((l.length : Int) - ((k : Int) + 1)).toNat) 0
    have h2 := founds_len F l xs (k + 1)
    rw [List.length_append, List.length_cons, Nat.add_mul]
    omega

theorem AlertPairs_true (x0 : List FilterTrack) (x1 : Sep) (x2 : Int) (_h0 : x0.length < 4611686018427387904) (_k0 : ∀ f ∈ x0, f.ok) (_k1 : x1.ok) (_k2 : I64 x2) : skywaykeep2_AlertPairs x0 x1 x2 = true := by
  unfold skywaykeep2_AlertPairs
  have e1 : alert_All (List.replicate 2 FilterTrack.zero) (⟨10, 1000⟩ : Sep) 1 0 0 = ([⟨0, 1, 0⟩], 0) := by kernel_rfl
  rw [e1]
  have z1 : (((0 : Int) != 0) || ((([⟨0, 1, 0⟩] : List AlertPair).length : Int) != 1)) = false := rfl
  have z2 : (!AlertPair.eqb ((([⟨0, 1, 0⟩] : List AlertPair)[0]?).getD AlertPair.zero) ⟨0, 1, 0⟩) = false := by kernel_rfl
  simp only [z1, z2, cond_false]
  obtain ⟨sec, hsec⟩ : ∃ n, n = skywaykeep2_within x2 0 20 := ⟨_, rfl⟩
  rw [← hsec]
  have hi := imin_r (x0.length : Int) 4
  have hlen : (x0.take (imin (x0.length : Int) 4).toNat).length ≤ 4 := by rw [List.length_take]; omega
  rcases All_eq (x0.take (imin (x0.length : Int) 4).toNat) x1 sec 1 5 with h | ⟨e, he, h⟩
  · rw [h]
    have z3 : ((0 : Int) != 0) = false := rfl
    simp only [z3, cond_false]
    have hl := founds_len (fun x y => alert_First x y x1 sec 1 5) (x0.take (imin (x0.length : Int) 4).toNat) (x0.take (imin (x0.length : Int) 4).toNat) 0
    have hm : (x0.take (imin (x0.length : Int) 4).toNat).length * (x0.take (imin (x0.length : Int) 4).toNat).length ≤ 4 * 4 := Nat.mul_le_mul hlen hlen
    have := pairs_L1 (l := x0) (s := x1) (sec := sec) (r := (founds (fun x y => alert_First x y x1 sec 1 5) (x0.take (imin (x0.length : Int) 4).toNat) (x0.take (imin (x0.length : Int) 4).toNat) 0, 0)) (Nat.lt_of_le_of_lt (Nat.le_trans hl hm) (by decide)) (x0.take (imin (x0.length : Int) 4).toNat) 0 0 (Nat.zero_le _) rfl
    rw [show ((0 : Nat) : Int) = 0 from rfl] at this
    rw [this]
    simp
  · rw [h]
    have z3 : (e != 0) = true := by simpa using he
    simp only [z3, cond_true]
    rfl
end Go.Sky
