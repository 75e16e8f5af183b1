/- Lemmas toward the given statement (part 5 of 16): Mb. Each theorem states its own conditions; nothing is assumed beyond them. -/
import Derived.Test.YtiknacdnhekekaaSw04
namespace Go.Sky
open Go Go.Eng Go.Proofs
def num_Root_L1 (n : Int) : Nat → Int → Int → Option Int
  | 0, _, _ => none
  | m + 1, low, high => cond (decide (low < high)) (
      cond (decide ((w64 ((w64 (low + (w64 ((w64 ((w64 (high - low)) + 1)).tdiv 2)))) * (w64 (low + (w64 ((w64 ((w64 (high - low)) + 1)).tdiv 2)))))) ≤ n)) (
        num_Root_L1 n m (w64 (low + (w64 ((w64 ((w64 (high - low)) + 1)).tdiv 2)))) high) (
        num_Root_L1 n m low (w64 ((w64 (low + (w64 ((w64 ((w64 (high - low)) + 1)).tdiv 2)))) - 1)))) (
      some (low))
def num_Root (n : Int) : Int :=
  cond (decide (n ≤ 0)) (
    0) (
    bindv ((num_Root_L1 n 34 0 3037000499).getD 0) (fun low_2 =>
      low_2))
theorem root_total (n : Int) : ∀ (j : Nat) (a b : Int), (0 ≤ a ∧ b ≤ 3037000499 ∧ b - a < 2 ^ j) → ∃ R, num_Root_L1 n (j + 1) a b = some R
  | 0, a, b, h => by
    have e : (2 : Int) ^ 0 = 1 := rfl
    have hk : decide (a < b) = false := by simp; omega
    exact ⟨a, by rw [num_Root_L1, hk]; rfl⟩
  | j + 1, a, b, h => by
    have e : (2 : Int) ^ (j + 1) = 2 * 2 ^ j := by rw [Int.pow_succ]; omega
    by_cases hk : a < b
    · have w1 : w64 (w64 (b - a) + 1) = b - a + 1 := by rw [w64_id (x := b - a) (by omega), w64_id (by omega)]
      have d1 : (b - a + 1).tdiv 2 = (b - a + 1) / 2 := Int.tdiv_eq_ediv_of_nonneg (by omega)
      have w2 : w64 ((w64 (w64 (b - a) + 1)).tdiv 2) = (b - a + 1) / 2 := by rw [w1, d1, w64_id (by omega)]
      have w3 : w64 (a + w64 ((w64 (w64 (b - a) + 1)).tdiv 2)) = a + (b - a + 1) / 2 := by rw [w2, w64_id (by omega)]
      rw [num_Root_L1, decide_eq_true hk]
      simp only [cond_true, w3]
      cases decide (w64 ((a + (b - a + 1) / 2) * (a + (b - a + 1) / 2)) ≤ n)
      · rw [cond_false, w64_id (by omega)]
        exact root_total n j a _ (by omega)
      · rw [cond_true]
        exact root_total n j _ b (by omega)
    · exact ⟨a, by rw [num_Root_L1, decide_eq_false hk]; rfl⟩
set_option maxRecDepth 100000 in
theorem num_Root_w (n : Int) (w : World) : Calls Try.prog 71 #[.int .i64 n] w (Ret w (.int .i64 (num_Root n))) := by
  refine calls_intro (vs := [.i n]) (w := w) Try.func71 rfl Try.ntmps71 rfl (TC.sr (TL.r 1 [] [(2, .i 0)] {} (TL.ns (TC.sr (TL.r 2 [] [(7, .b (decide (n ≤ 0)))] {} (TL.next rfl (TC.cond (decide (n ≤ 0)) rfl Kr (fun h1 => ?_) (fun h1 => ?_))))))))
  · exact TC.sr (TL.r 1 [] [(2, .i 0)] {} (TL.next rfl (TC.ret (TE.rt (TE.ret [] (.i 0) {} (by unfold num_Root; refine eS (fun z => (.i z : Value)) ?_; exact cond_t h1 (rfl)))))))
  · have q1_0 := (dec_f h1)
    refine TC.snr (TL.r 2 [] [(3, .i 0), (4, .i 3037000499)] {} (TL.ns ?_))
    obtain ⟨R1, hR⟩ : ∃ R, num_Root_L1 n 34 0 3037000499 = some R := root_total n 33 0 3037000499 (by omega)
    refine TC.cut (S := Int) (fun low_2 => [(3, .i low_2)]) (fun low_2 => []) (fun low_2 => R1 = low_2) ?_ ?_
    · refine TC.block (TC.lw (X := Nat × Int × Int) (fun (m, low, high) => [(0, .i n), (3, .i low), (4, .i high)]) (fun (m, low, high) => []) (fun (m, low, high) => m) (fun (m, low, high) => num_Root_L1 n m low high = some R1) ?_ (34, 0, 3037000499) hR Kr (sb 0))
      rintro ⟨m, low, high⟩ hI
      rcases m with _ | m
      · cases hI
      refine TC.seq (TC.sr (TL.r 3 [] [(10, .b (decide (low < high)))] {} (TL.next rfl (TC.cond (decide (low < high)) rfl Kr (fun h2 => ?_) (fun h2 => ?_)))))
      · refine TC.sn (TC.block (TC.sr (TL.r 8 [] [(5, .i (w64 (low + (w64 ((w64 ((w64 (high - low)) + 1)).tdiv 2)))))] {} (TL.nr (TL.r 5 [] [(22, .b (decide ((w64 ((w64 (low + (w64 ((w64 ((w64 (high - low)) + 1)).tdiv 2)))) * (w64 (low + (w64 ((w64 ((w64 (high - low)) + 1)).tdiv 2)))))) ≤ n)))] {} (TL.next rfl (TC.cond (decide ((w64 ((w64 (low + (w64 ((w64 ((w64 (high - low)) + 1)).tdiv 2)))) * (w64 (low + (w64 ((w64 ((w64 (high - low)) + 1)).tdiv 2)))))) ≤ n)) rfl Kr (fun h3 => ?_) (fun h3 => ?_))))))))
        · exact TC.region (TL.r 2 [] [(3, .i (w64 (low + (w64 ((w64 ((w64 (high - low)) + 1)).tdiv 2)))))] {} (TL.done rfl (TE.nb (TE.again (x := (m + 1, low, high)) (m, w64 (low + (w64 ((w64 ((w64 (high - low)) + 1)).tdiv 2))), high) (by refine Eq.trans (Eq.symm ?_) hI; exact cond_t h2 (cond_t h3 (rfl))) (Nat.lt_succ_self _) Kr (sb 0)))))
        · exact TC.region (TL.r 3 [] [(4, .i (w64 ((w64 (low + (w64 ((w64 ((w64 (high - low)) + 1)).tdiv 2)))) - 1)))] {} (TL.done rfl (TE.nb (TE.again (x := (m + 1, low, high)) (m, low, w64 ((w64 (low + (w64 ((w64 ((w64 (high - low)) + 1)).tdiv 2)))) - 1)) (by refine Eq.trans (Eq.symm ?_) hI; exact cond_t h2 (cond_f h3 (rfl))) (Nat.lt_succ_self _) Kr (sb 0)))))
      · refine TC.exit (TE.et (TE.et (TE.exit_same ?_)))
        exact TE.cut low (Option.some.inj (hI.symm.trans (by exact cond_f h2 (rfl)))) Kr (sb 0)
    · rintro low_2 hJ
      exact TE.nr (TL.r 2 [] [(2, .i low_2)] {} (TL.next rfl (TC.ret (TE.ret [] (.i low_2) {} (by unfold num_Root; refine eS (fun z => (.i z : Value)) ?_; exact cond_f h1 (bindv_eq ((congrArg (Option.getD · _) hR).trans hJ) (rfl)))))))
def skywayref1_Root_L1 (n : Int) : Nat → Nat → Int → Int
  | 0, _, r_ => r_
  | m + 1, k, r_ => cond (((decide (n > 0)) && (decide ((w64 (r_ + (w64 (1 * 2 ^ (min (31 - ((k : Nat) : Int)).toNat 64))))) ≤ 3037000499))) && (decide ((w64 ((w64 (r_ + (w64 (1 * 2 ^ (min (31 - ((k : Nat) : Int)).toNat 64))))) * (w64 (r_ + (w64 (1 * 2 ^ (min (31 - ((k : Nat) : Int)).toNat 64))))))) ≤ n))) (
      skywayref1_Root_L1 n m (k + 1) (w64 (r_ + (w64 (1 * 2 ^ (min (31 - ((k : Nat) : Int)).toNat 64)))))) (
      skywayref1_Root_L1 n m (k + 1) r_)
def skywayref1_Root (n : Int) : Int :=
  bindv (skywayref1_Root_L1 n 32 0 0) (fun r__2 =>
    r__2)
set_option maxRecDepth 100000 in
theorem skywayref1_Root_w (n : Int) (w : World) : Calls Try.prog 38 #[.int .i64 n] w (Ret w (.int .i64 (skywayref1_Root n))) := by
  refine calls_intro (vs := [.i n]) (w := w) Try.func38 rfl Try.ntmps38 rfl (TC.sr (TL.r 1 [] [(2, .i 0)] {} (TL.nr (TL.r 1 [] [(3, .i 0)] {} (TL.ns (TC.sr (TL.r 1 [] [(4, .i 31)] {} (TL.next rfl ?_))))))))
  obtain ⟨R1, hR⟩ : ∃ R, R = skywayref1_Root_L1 n 32 0 0 := ⟨_, rfl⟩
  refine TC.cut (S := Int) (fun r__2 => [(3, .i r__2)]) (fun r__2 => []) (fun r__2 => R1 = r__2) ?_ ?_
  · refine TC.block (TC.rw 4 (.i 31) (.i (31 - ((0 : Nat) : Int))) Kr (int_eq (by first | omega | (rw [w64_id (by omega)]; omega) | (simp only [w64_eq]; omega))) (TC.lw (X := Nat × Int) (fun (k, r_) => [(0, .i n), (3, .i r_), (4, .i (31 - ((k : Nat) : Int)))]) (fun (k, r_) => []) (fun (k, r_) => 32 - k) (fun (k, r_) => k ≤ 32 ∧ R1 = skywayref1_Root_L1 n (32 - k) k r_) ?_ (0, 0) ⟨Nat.zero_le _, hR⟩ Kr (sb 0)))
    rintro ⟨k, r_⟩ ⟨hk, hI⟩
    refine TC.seq (TC.sr (TL.r 2 [] [(7, .b (decide ((31 - ((k : Nat) : Int)) ≥ 0)))] {} (TL.next rfl (TC.cond (decide ((31 - ((k : Nat) : Int)) ≥ 0)) rfl Kr (fun h1 => ?_) (fun h1 => ?_)))))
    · have hlt : k < 32 := by have p0_ := (dec_t h1); first | omega | (simp only [w64_eq] at *; omega)
      have hd : 32 - k = (32 - (k + 1)) + 1 := by omega
      have q1_0 := (dec_t h1)
      refine TC.sn (TC.seq (TC.block (TC.sr (TL.r 2 [] [(10, .i r_), (11, .i (31 - ((k : Nat) : Int)))] {} (TL.v (sV (binOp .shl 3 (.i 1) (.i (31 - ((k : Nat) : Int))))) 12 (.i (w64 (1 * 2 ^ (min (31 - ((k : Nat) : Int)).toNat 64)))) (fun w hM => run_shl sd) {} (TL.r 5 [] [(5, .i (w64 (r_ + (w64 (1 * 2 ^ (min (31 - ((k : Nat) : Int)).toNat 64))))))] {} (TL.nr (TL.r 3 [] [(16, .b (decide (n > 0)))] {} (TL.j 16 (decide (n > 0)) 6 [] [] (fun β => [(19, .b (β && (decide ((w64 (r_ + (w64 (1 * 2 ^ (min (31 - ((k : Nat) : Int)).toNat 64))))) ≤ 3037000499))))]) Kr {} {} (TL.r 7 [] [(20, .b ((decide (n > 0)) && (decide ((w64 (r_ + (w64 (1 * 2 ^ (min (31 - ((k : Nat) : Int)).toNat 64))))) ≤ 3037000499))))] {} (TL.j 20 ((decide (n > 0)) && (decide ((w64 (r_ + (w64 (1 * 2 ^ (min (31 - ((k : Nat) : Int)).toNat 64))))) ≤ 3037000499))) 13 [] [] (fun β => [(26, .b (β && (decide ((w64 ((w64 (r_ + (w64 (1 * 2 ^ (min (31 - ((k : Nat) : Int)).toNat 64))))) * (w64 (r_ + (w64 (1 * 2 ^ (min (31 - ((k : Nat) : Int)).toNat 64))))))) ≤ n))))]) Kr {} {} (TL.next rfl (TC.cond (((decide (n > 0)) && (decide ((w64 (r_ + (w64 (1 * 2 ^ (min (31 - ((k : Nat) : Int)).toNat 64))))) ≤ 3037000499))) && (decide ((w64 ((w64 (r_ + (w64 (1 * 2 ^ (min (31 - ((k : Nat) : Int)).toNat 64))))) * (w64 (r_ + (w64 (1 * 2 ^ (min (31 - ((k : Nat) : Int)).toNat 64))))))) ≤ n))) rfl Kr (fun h2 => ?_) (fun h2 => ?_))))))))))))))
      · have q2_0 := (dec_t (and_t1 (and_t1 h2)))
        have q2_1 := (dec_t (and_t2 (and_t1 h2)))
        have q2_2 := (dec_t (and_t2 h2))
        exact TC.region (TL.r 2 [] [(3, .i (w64 (r_ + (w64 (1 * 2 ^ (min (31 - ((k : Nat) : Int)).toNat 64))))))] {} (TL.done rfl (TE.nb (TE.next (TC.region (TL.r 3 [] [(4, .i (w64 ((31 - ((k : Nat) : Int)) - 1)))] {} (TL.done rfl (TE.rw 4 (.i (w64 ((31 - ((k : Nat) : Int)) - 1))) (.i (31 - ((k + 1 : Nat) : Int))) Kr (int_eq (by first | omega | (rw [w64_id (by omega)]; omega) | (simp only [w64_eq] at *; omega))) (TE.again (x := (k, r_)) (k + 1, w64 (r_ + (w64 (1 * 2 ^ (min (31 - ((k : Nat) : Int)).toNat 64))))) ⟨by omega, hI.trans (by rw [hd]; exact cond_t h2 (rfl))⟩ (mN hlt) Kr (sb 0))))))))))
      · have q2_0 := ((and_f h2).imp (fun h => ((and_f h).imp (fun h => (dec_f h)) (fun h => (dec_f h)))) (fun h => (dec_f h)))
        exact TC.skip (TE.nb (TE.next (TC.region (TL.r 3 [] [(4, .i (w64 ((31 - ((k : Nat) : Int)) - 1)))] {} (TL.done rfl (TE.rw 4 (.i (w64 ((31 - ((k : Nat) : Int)) - 1))) (.i (31 - ((k + 1 : Nat) : Int))) Kr (int_eq (by first | omega | (rw [w64_id (by omega)]; omega) | (simp only [w64_eq] at *; omega))) (TE.again (x := (k, r_)) (k + 1, r_) ⟨by omega, hI.trans (by rw [hd]; exact cond_f h2 (rfl))⟩ (mN hlt) Kr (sb 0))))))))
    · have hd : 32 - k = 0 := by have p0_ := (dec_f h1); first | omega | (simp only [w64_eq] at *; omega)
      refine TC.exit (TE.et (TE.et (TE.exit_same ?_)))
      exact TE.cut r_ (hI.trans (by rw [hd]; exact rfl)) Kr (sb 0)
  · rintro r__2 hJ
    exact TE.nr (TL.r 2 [] [(2, .i r__2)] {} (TL.next rfl (TC.ret (TE.ret [] (.i r__2) {} (by unfold skywayref1_Root; refine eS (fun z => (.i z : Value)) ?_; exact bindv_eq (hR.symm.trans hJ) (rfl))))))
def plane_Distance (a : P) (b_ : P) : Int × Int :=
  let r1 := plane_Square a b_
  let r2 := num_Root r1
  cond (decide ((w64 (r2 * r2)) < r1)) (
    (r2, w64 (r2 + 1))) (
    (r2, r2))
set_option maxRecDepth 100000 in
theorem plane_Distance_w (a : P) (b_ : P) (w : World) : Calls Try.prog 56 #[P.v a, P.v b_] w (Ret w (.tuple #[.int .i64 ((plane_Distance a b_).1), .int .i64 ((plane_Distance a b_).2)])) := by
  refine calls_intro (vs := [P.v a, P.v b_]) (w := w) Try.func56 rfl Try.ntmps56 rfl (TC.sr (TL.nw 2 (fun b1 => .p0 b1) (fun b1 => Bk b1 (P.c a) 33) (fun b1 => {}) (fun b1 => TL.nw 3 (fun b2 => .p0 b2) (fun b2 => Bk b2 (P.c b_) 33) (fun b2 => {}) (fun b2 => TL.r 4 [] [(4, .i 0), (5, .i 0)] {} (TL.nr (TL.r 2 [1, 0] [(8, P.v a), (9, P.v b_)] {} (TL.c 10 (plane_Square a b_) (fun r1 => .i r1) (fun w _ => plane_Square_w a b_ w) {} (fun r1 hr1 => TL.r 4 [] [(6, .i r1)] {} (TL.nr (TL.r 1 [] [(11, .i r1)] {} (TL.c 12 (num_Root r1) (fun r2 => .i r2) (fun w _ => num_Root_w r1 w) {} (fun r2 hr2 => TL.r 3 [] [(7, .i r2)] {} (TL.ns (TC.sr (TL.r 5 [] [(17, .b (decide ((w64 (r2 * r2)) < r1)))] {} (TL.next rfl (TC.cond (decide ((w64 (r2 * r2)) < r1)) rfl Kr (fun h1 => ?_) (fun h1 => ?_))))))))))))))))))
  · exact TC.sr (TL.r 5 [] [(4, .i r2), (5, .i (w64 (r2 + 1)))] {} (TL.next rfl (TC.ret (TE.rt (TE.ret [] (.tuple #[.i r2, .i (w64 (r2 + 1))]) {} (by unfold plane_Distance; refine eS (a := (r2, w64 (r2 + 1))) (fun (z : Int × Int) => (.tuple #[.i z.1, .i z.2] : Value)) ?_; subst hr1 hr2; exact cond_t h1 (rfl)))))))
  · exact TC.snr (TL.r 4 [] [(4, .i r2), (5, .i r2)] {} (TL.next rfl (TC.ret (TE.ret [] (.tuple #[.i r2, .i r2]) {} (by unfold plane_Distance; refine eS (a := (r2, r2)) (fun (z : Int × Int) => (.tuple #[.i z.1, .i z.2] : Value)) ?_; subst hr1 hr2; exact cond_f h1 (rfl))))))
def slices_Index_int_int_L1 (v : Int) : List Int → Nat → ((Unit) ⊕ (Int))
  | [], _ => .inl ()
  | x :: xs, k => cond (v == x) (
      .inr (k : Int)) (
      slices_Index_int_int_L1 v xs (k + 1))
def slices_Index_int_int (s : List Int) (v : Int) : Int :=
  Sum.elim (fun _ =>
    (-1)) (fun r => r) (slices_Index_int_int_L1 v s 0)
set_option maxRecDepth 100000 in
theorem slices_Index_int_int_w (A_s : Option Addr) (c_s : Nat) (s : List Int) (v : Int) (w : World) (h_s : Rd w 1 A_s (s.map ic)) (_hc_s : s.length ≤ c_s) : Calls Try.prog 19 #[.slice A_s s.length c_s, .int .i64 v] w (Ret w (.int .i64 (slices_Index_int_int s v))) := by
  have s_s := h_s.short; rw [List.length_map] at s_s
  refine calls_intro (vs := [.slice A_s s.length c_s, .i v]) (w := w) Try.func19 rfl Try.ntmps19 rfl (TC.sr (TL.r 1 [] [(4, .i 0)] {} (TL.ns (TC.sr (TL.r 3 [] [(7, .i (s.length : Int)), (8, .i 0)] {} (TL.next rfl ?_))))))
  obtain ⟨R1, hR⟩ : ∃ R, R = slices_Index_int_int_L1 v s 0 := ⟨_, rfl⟩
  refine TC.cut (S := Unit) (fun (_ : Unit) => []) (fun (_ : Unit) => []) (fun (_ : Unit) => R1 = .inl ()) ?_ ?_
  · refine TC.block (TC.lw (X := Nat) (fun k => [(0, .slice A_s s.length c_s), (1, .i v), (7, .i (s.length : Int)), (8, .i (k : Int))]) (fun k => []) (fun k => s.length - k) (fun k => k ≤ s.length ∧ R1 = slices_Index_int_int_L1 v (s.drop k) k) ?_ 0 ⟨Nat.zero_le _, hR⟩ Kr (sb 0))
    rintro k ⟨hk, hI⟩
    refine TC.sr (TL.r 1 [] [(9, .b (decide ((k : Int) < (s.length : Int))))] {} (TL.ns (TC.cond (decide ((k : Int) < (s.length : Int))) rfl Kr (fun h1 => ?_) (fun h1 => ?_))))
    · have hlt := ltN h1
      obtain ⟨x, hx⟩ := elN hlt
      have hd := drop_at hx
      refine TC.sn (TC.seq (TC.block (TC.sr (TL.r 2 [] [(5, .i (k : Int))] {} (TL.nr (TL.r 3 [] [(11, .i v), (12, .slice A_s s.length c_s), (13, .i (k : Int))] {} (TL.v (sV (Instr.indexAt 53 (.slice A_s s.length c_s) (.i (k : Int)))) 14 (.pointer (some (Ix A_s (k * 1)))) (fun w hM => run_index (h_s.sat hM) (by simp) Kr sd sd) {} (TL.v (sV (Instr.loadAt 3 (.pointer (some (Ix A_s (k * 1)))))) 15 (.i x) (fun w hM => run_load_one (off := 0) (i := k) (.i x) (h_s.sat hM) (map_at hx) Kr Kr) {} (TL.r 6 [] [(16, .b (v == x))] {} (TL.next rfl (TC.cond (v == x) rfl Kr (fun h2 => ?_) (fun h2 => ?_))))))))))))
      · refine TC.sr (TL.r 2 [] [(4, .i (k : Int))] {} (TL.next rfl (TC.ret (TE.rb (TE.rt (TE.rt (TE.rb (TE.rt (TE.rt ?_)))))))))
        exact TE.ret [] (.i (k : Int)) {} (by unfold slices_Index_int_int; refine eS (fun z => (.i z : Value)) ?_; exact elim_r (hR.symm.trans (hI.trans (by rw [hd]; exact cond_t h2 (rfl)))) rfl)
      · have q2_0 := (beq_f h2)
        exact TC.skip (TE.nb (TE.next (TC.region (TL.r 2 [] [(8, .i (w64 ((k : Int) + 1)))] {} (TL.done rfl (TE.rw 8 (.i (w64 ((k : Int) + 1))) (.i ((k + 1 : Nat) : Int)) Kr (w64_cast k (by omega)) (TE.again (x := k) (k + 1) ⟨by omega, hI.trans (by rw [hd]; exact cond_f h2 (rfl))⟩ (mN hlt) Kr (sb 0))))))))
    · have hd := dropN h1
      refine TC.exit (TE.et (TE.et (TE.exit_same ?_)))
      exact TE.cut () (hI.trans (by rw [hd]; exact rfl)) Kr (sb 0)
  · intro _ hJ
    exact TE.nr (TL.r 1 [] [(4, .i (-1))] {} (TL.next rfl (TC.ret (TE.ret [] (.i (-1)) {} (by unfold slices_Index_int_int; refine eS (fun z => (.i z : Value)) ?_; exact elim_l (hR.symm.trans hJ) (rfl))))))
def slices_Compare_int_int_L1 (s2 : List Int) : List Int → Nat → ((Unit) ⊕ (Int))
  | [], _ => .inl ()
  | x :: xs, k => cond (decide ((k : Int) ≥ (s2.length : Int))) (
      .inr 1) (
      let r1 := cmp_Compare_int x (s2[k]?.getD 0)
      cond (r1 != 0) (
        .inr r1) (
        slices_Compare_int_int_L1 s2 xs (k + 1)))
def slices_Compare_int_int (s1 : List Int) (s2 : List Int) : Int :=
  Sum.elim (fun _ =>
    cond (decide ((s1.length : Int) < (s2.length : Int))) (
      (-1)) (
      0)) (fun r => r) (slices_Compare_int_int_L1 s2 s1 0)
set_option maxRecDepth 100000 in
theorem slices_Compare_int_int_w (A_s1 : Option Addr) (c_s1 : Nat) (s1 : List Int) (A_s2 : Option Addr) (c_s2 : Nat) (s2 : List Int) (w : World) (h_s1 : Rd w 1 A_s1 (s1.map ic)) (_hc_s1 : s1.length ≤ c_s1) (h_s2 : Rd w 1 A_s2 (s2.map ic)) (_hc_s2 : s2.length ≤ c_s2) : Calls Try.prog 18 #[.slice A_s1 s1.length c_s1, .slice A_s2 s2.length c_s2] w (Ret w (.int .i64 (slices_Compare_int_int s1 s2))) := by
  have s_s1 := h_s1.short; rw [List.length_map] at s_s1
  have s_s2 := h_s2.short; rw [List.length_map] at s_s2
  refine calls_intro (vs := [.slice A_s1 s1.length c_s1, .slice A_s2 s2.length c_s2]) (w := w) Try.func18 rfl Try.ntmps18 rfl (TC.sr (TL.r 1 [] [(4, .i 0)] {} (TL.ns (TC.sr (TL.r 3 [] [(9, .slice A_s1 s1.length c_s1), (10, .i (s1.length : Int)), (11, .i 0)] {} (TL.next rfl ?_))))))
  obtain ⟨R1, hR⟩ : ∃ R, R = slices_Compare_int_int_L1 s2 s1 0 := ⟨_, rfl⟩
  refine TC.cut (S := Unit) (fun (_ : Unit) => [(0, .slice A_s1 s1.length c_s1), (1, .slice A_s2 s2.length c_s2)]) (fun (_ : Unit) => []) (fun (_ : Unit) => R1 = .inl ()) ?_ ?_
  · refine TC.block (TC.lw (X := Nat) (fun k => [(0, .slice A_s1 s1.length c_s1), (1, .slice A_s2 s2.length c_s2), (9, .slice A_s1 s1.length c_s1), (10, .i (s1.length : Int)), (11, .i (k : Int))]) (fun k => []) (fun k => s1.length - k) (fun k => k ≤ s1.length ∧ R1 = slices_Compare_int_int_L1 s2 (s1.drop k) k) ?_ 0 ⟨Nat.zero_le _, hR⟩ Kr (sb 0))
    rintro k ⟨hk, hI⟩
    refine TC.sr (TL.r 1 [] [(12, .b (decide ((k : Int) < (s1.length : Int))))] {} (TL.ns (TC.cond (decide ((k : Int) < (s1.length : Int))) rfl Kr (fun h1 => ?_) (fun h1 => ?_))))
    · have hlt := ltN h1
      obtain ⟨x, hx⟩ := elN hlt
      have hd := drop_at hx
      refine TC.sn (TC.seq (TC.block (TC.sr (TL.r 1 [] [(13, .i (k : Int))] {} (TL.v (sV (Instr.indexAt 53 (.slice A_s1 s1.length c_s1) (.i (k : Int)))) 14 (.pointer (some (Ix A_s1 (k * 1)))) (fun w hM => run_index (h_s1.sat hM) (by simp) Kr sd sd) {} (TL.v (sV (Instr.loadAt 3 (.pointer (some (Ix A_s1 (k * 1)))))) 15 (.i x) (fun w hM => run_load_one (off := 0) (i := k) (.i x) (h_s1.sat hM) (map_at hx) Kr Kr) {} (TL.r 5 [] [(5, .i (k : Int)), (6, .i x)] {} (TL.ns (TC.sr (TL.r 4 [] [(19, .b (decide ((k : Int) ≥ (s2.length : Int))))] {} (TL.next rfl (TC.cond (decide ((k : Int) ≥ (s2.length : Int))) rfl Kr (fun h2 => ?_) (fun h2 => ?_)))))))))))))
      · refine TC.sr (TL.r 1 [] [(4, .i 1)] {} (TL.next rfl (TC.ret (TE.rt (TE.rb (TE.rt (TE.rt (TE.rb (TE.rt (TE.rt ?_))))))))))
        exact TE.ret [] (.i 1) {} (by unfold slices_Compare_int_int; refine eS (fun z => (.i z : Value)) ?_; exact elim_r (hR.symm.trans (hI.trans (by rw [hd]; exact cond_t h2 (rfl)))) rfl)
      · have q2_0 := (dec_f h2)
        refine TC.snr (TL.r 2 [] [(20, .slice A_s2 s2.length c_s2), (21, .i (k : Int))] {} (TL.v (sV (Instr.indexAt 53 (.slice A_s2 s2.length c_s2) (.i (k : Int)))) 22 (.pointer (some (Ix A_s2 (k * 1)))) (fun w hM => run_index (h_s2.sat hM) (by simp) Kr sd sd) {} (TL.v (sV (Instr.loadAt 3 (.pointer (some (Ix A_s2 (k * 1)))))) 23 (.i (s2[k]?.getD 0)) (fun w hM => run_load_one (off := 0) (i := k) (.i (s2[k]?.getD 0)) (h_s2.sat hM) (map_at (getD_at _ _ 0 sd)) Kr Kr) {} (TL.r 5 [] [(7, .i (s2[k]?.getD 0))] {} (TL.nr (TL.r 2 [] [(24, .i x), (25, .i (s2[k]?.getD 0))] {} (TL.c 26 (cmp_Compare_int x (s2[k]?.getD 0)) (fun r1 => .i r1) (fun w _ => cmp_Compare_int_w x (s2[k]?.getD 0) w) {} (fun r1 hr1 => TL.r 4 [] [(8, .i r1)] {} (TL.nr (TL.r 2 [] [(28, .b (r1 != 0))] {} (TL.next rfl (TC.cond (r1 != 0) rfl Kr (fun h3 => ?_) (fun h3 => ?_)))))))))))))
        · refine TC.sr (TL.r 2 [] [(4, .i r1)] {} (TL.next rfl (TC.ret (TE.rb (TE.rt (TE.rt (TE.rb (TE.rt (TE.rt ?_)))))))))
          exact TE.ret [] (.i r1) {} (by unfold slices_Compare_int_int; refine eS (fun z => (.i z : Value)) ?_; subst hr1; exact elim_r (hR.symm.trans (hI.trans (by rw [hd]; exact cond_f h2 (cond_t h3 (rfl))))) rfl)
        · have q3_0 := (bne_f h3)
          exact TC.skip (TE.nb (TE.next (TC.region (TL.r 2 [] [(11, .i (w64 ((k : Int) + 1)))] {} (TL.done rfl (TE.rw 11 (.i (w64 ((k : Int) + 1))) (.i ((k + 1 : Nat) : Int)) Kr (w64_cast k (by omega)) (TE.again (x := k) (k + 1) ⟨by omega, hI.trans (by subst hr1; rw [hd]; exact cond_f h2 (cond_f h3 (rfl)))⟩ (mN hlt) Kr (sb 0))))))))
    · have hd := dropN h1
      refine TC.exit (TE.et (TE.et (TE.exit_same ?_)))
      exact TE.cut () (hI.trans (by rw [hd]; exact rfl)) Kr (sb 0)
  · intro _ hJ
    refine TE.next (TC.seq (TC.sr (TL.r 5 [] [(35, .b (decide ((s1.length : Int) < (s2.length : Int))))] {} (TL.next rfl (TC.cond (decide ((s1.length : Int) < (s2.length : Int))) rfl Kr (fun h4 => ?_) (fun h4 => ?_))))))
    · exact TC.sr (TL.r 1 [] [(4, .i (-1))] {} (TL.next rfl (TC.ret (TE.rt (TE.ret [] (.i (-1)) {} (by unfold slices_Compare_int_int; refine eS (fun z => (.i z : Value)) ?_; exact elim_l (hR.symm.trans hJ) (cond_t h4 (rfl))))))))
    · exact TC.snr (TL.r 1 [] [(4, .i 0)] {} (TL.next rfl (TC.ret (TE.ret [] (.i 0) {} (by unfold slices_Compare_int_int; refine eS (fun z => (.i z : Value)) ?_; exact elim_l (hR.symm.trans hJ) (cond_f h4 (rfl)))))))
def slices_Grow_int_int (n : Int) : List Int :=
  cond (decide (n < 0)) (
    []) (
    cond (decide ((w64 (n - (w64 (0 - 0)))) > 0)) (
      ([] : List Int)) (
      []))
set_option maxRecDepth 100000 in
theorem slices_Grow_int_int_w (n : Int) (w : World) (hn : 0 ≤ n ∧ n ≤ 1000000) : Calls Try.prog 34 #[.slice none 0 0, .int .i64 n] w (RetM (Γ := (Option Addr × Nat)) (cx w) (fun g => .slice g.1 ((slices_Grow_int_int n).length) g.2) (fun g => [.inr (Own g.1 g.2 3 1 ((slices_Grow_int_int n).map ic))])) := by
  refine calls_intro (vs := [.slice none 0 0, .i n]) (w := w) Try.func34 rfl Try.ntmps34 rfl (TC.sr (TL.r 1 [] [(4, .slice none 0 0)] {} (TL.ns (TC.sr (TL.r 2 [] [(6, .b (decide (n < 0)))] {} (TL.next rfl (TC.cond (decide (n < 0)) rfl Kr (fun h1 => ?_) (fun h1 => ?_))))))))
  · exact ((by have := dec_t h1; omega) : False).elim
  · have q1_0 := (dec_f h1)
    refine TC.sn (TC.seq (TC.sr (TL.r 8 [] [(1, .i (w64 (n - (w64 (0 - 0)))))] {} (TL.nr (TL.r 2 [] [(16, .b (decide ((w64 (n - (w64 (0 - 0)))) > 0)))] {} (TL.next rfl (TC.cond (decide ((w64 (n - (w64 (0 - 0)))) > 0)) rfl Kr (fun h2 => ?_) (fun h2 => ?_))))))))
    · have q2_0 := (dec_t h2)
      refine TC.region (TL.r 3 [] [(17, .slice none 0 0), (19, .i 0)] {} (TL.v (sV (Instr.sliceAt 53 (.slice none 0 0) none (some (.i 0)) none)) 20 (.slice none 0 0) (fun w hM => (run_slice (sz := 1) 0 0 Kr (.inl ⟨rfl, rfl⟩) (.inr ⟨_, _, rfl, (by decide), rfl⟩) (Nat.le_refl _) (Nat.zero_le _)).trans (by rfl)) {} (TL.r 5 [] [(21, .i (w64 (n - (w64 (0 - 0)))))] {} (TL.rw 21 (.i (w64 (n - (w64 (0 - 0))))) (.i (((w64 (n - (w64 (0 - 0)))).toNat : Nat) : Int)) Kr (int_eq (Int.toNat_of_nonneg sd).symm) (TL.opM (Γ := AN) (sV (Builtin.append_ #[53, 3] 53 #[.slice none 0 0, .i (((w64 (n - (w64 (0 - 0)))).toNat : Nat) : Int)])) (some 22) (fun g => .slice g.1 ((w64 (n - (w64 (0 - 0)))).toNat) g.2) (fun g => [Ow g.1 g.2 3 1 (([] : List Int).map ic)]) (fun g => [(0, .slice none 0 0), (22, .slice g.1 ((w64 (n - (w64 (0 - 0)))).toNat) g.2)]) (appnum_nil (c := ic) (bytes := 8) 53 ((w64 (n - (w64 (0 - 0)))).toNat) Kr rfl Kr sd sd) Kr (fun g => Kr) ?_)))))
      rintro ⟨A, c⟩
      refine TL.r 8 [] [(24, .i 0)] {} (TL.v (sV (Instr.sliceAt 53 (.slice A ((w64 (n - (w64 (0 - 0)))).toNat) c) none (some (.i 0)) none)) 25 (.slice A 0 c) (fun w hM => (run_slice (sz := 1) 0 0 Kr (.inl ⟨rfl, rfl⟩) (.inr ⟨_, _, rfl, (by decide), rfl⟩) (Nat.le_refl _) (Nat.zero_le _)).trans (by rw [cut0]; rfl)) {} (TL.r 10 [] [(0, .slice A 0 c)] {} (TL.nr (TL.r 2 [] [(4, .slice A 0 c)] {} (TL.next rfl (TC.ret ?_))))))
      have e : slices_Grow_int_int n = ([] : List Int) := by unfold slices_Grow_int_int; exact cond_f h1 (cond_t h2 (rfl))
      rw [e]
      exact TE.retM (.inl rfl) (A, c) [] (.slice A 0 c) {} rfl (fun _ hM => hM.sub (sb 1))
    · refine TC.snr (TL.r 2 [] [(4, .slice none 0 0)] {} (TL.next rfl (TC.ret ?_)))
      have e : slices_Grow_int_int n = ([]) := by unfold slices_Grow_int_int; exact cond_f h1 (cond_f h2 (rfl))
      refine TE.conv [Ow none 0 3 1 (([] : List Int).map ic)] (fun _ hM => hM.emptyrow none 3 1) ?_
      rw [e]
      exact TE.retM (.inl rfl) (none, 0) [] (.slice none 0 0) {} rfl (fun _ hM => hM.sub (sb 1))
def slices_Concat_int_int_L1 : List (List Int) → Nat → Int → Int
  | [], _, size => size
  | x :: xs, k, size => cond (decide ((w64 (size + (x.length : Int))) < 0)) (
      default) (
      slices_Concat_int_int_L1 xs (k + 1) (w64 (size + (x.length : Int))))
def slices_Concat_int_int_L2 : List (List Int) → Nat → (List Int) → (List Int)
  | [], _, newslice => newslice
  | x_2 :: xs, k_2, newslice => slices_Concat_int_int_L2 xs (k_2 + 1) (newslice ++ x_2)
def slices_Concat_int_int (slices : List (List Int)) : List Int :=
  bindv (slices_Concat_int_int_L1 slices 0 0) (fun size_2 =>
    let r1 := slices_Grow_int_int size_2
    bindv (slices_Concat_int_int_L2 slices 0 r1) (fun newslice_2 =>
      newslice_2))
theorem grow_len {n : Int} {r : List Int} (h : slices_Grow_int_int n = r) : r.length = 0 := by
  subst h
  unfold slices_Grow_int_int
  cases decide (n < 0) <;> cases decide (w64 (n - (w64 (0 - 0))) > 0) <;> rfl
set_option maxRecDepth 100000 in
theorem slices_Concat_int_int_w (A_slices : Option Addr) (c_slices : Nat) (slices : List (List Int)) (o_slices : List (Sl Int)) (w : World) (h_slices : Rd w 1 A_slices (o_slices.map Sl.c)) (_hc_slices : slices.length ≤ c_slices) (hd_slices : ∀ s ∈ o_slices, s.rd w 1 ic) (he_slices : slices = o_slices.map Sl.l) (hp : slices.length ≤ 2 ∧ ∀ s ∈ slices, s.length ≤ 100000) : Calls Try.prog 17 #[.slice A_slices slices.length c_slices] w (RetM (Γ := (Option Addr × Nat)) (cx w) (fun g => .slice g.1 ((slices_Concat_int_int slices).length) g.2) (fun g => [.inr (Own g.1 g.2 3 1 ((slices_Concat_int_int slices).map ic))])) := by
  have s_slices := h_slices.short; rw [← sl_len he_slices] at s_slices
  refine calls_intro (vs := [.slice A_slices slices.length c_slices]) (w := w) Try.func17 rfl Try.ntmps17 rfl (TC.sr (TL.r 1 [] [(2, .slice none 0 0)] {} (TL.nr (TL.r 1 [] [(3, .i 0)] {} (TL.ns (TC.sr (TL.r 3 [] [(9, .slice A_slices slices.length c_slices), (10, .i (slices.length : Int)), (11, .i 0)] {} (TL.next rfl ?_))))))))
  obtain ⟨R1, hR⟩ : ∃ R, R = slices_Concat_int_int_L1 slices 0 0 := ⟨_, rfl⟩
  refine TC.cut (S := Int) (fun size_2 => [(0, .slice A_slices slices.length c_slices), (3, .i size_2)]) (fun size_2 => []) (fun size_2 => R1 = size_2 ∧ (0 ≤ size_2 ∧ size_2 ≤ 200000)) ?_ ?_
  · refine TC.block (TC.lw (X := Nat × Int) (fun (k, size) => [(0, .slice A_slices slices.length c_slices), (3, .i size), (9, .slice A_slices slices.length c_slices), (10, .i (slices.length : Int)), (11, .i (k : Int))]) (fun (k, size) => []) (fun (k, size) => slices.length - k) (fun (k, size) => k ≤ slices.length ∧ R1 = slices_Concat_int_int_L1 (slices.drop k) k size ∧ (0 ≤ size ∧ size ≤ 100000 * (k : Int))) ?_ (0, 0) ⟨Nat.zero_le _, hR, (by have kp_ := hp.1; (try have kg_ := grow_len hr1); (try have kx_ := hp.2 _ (List.mem_of_getElem? hx)); (try have kx_ := hp.2 _ (List.mem_of_getElem? hx_2)); exact sz)⟩ Kr (sb 0))
    rintro ⟨k, size⟩ ⟨hk, hI, hl_iv0⟩
    refine TC.sr (TL.r 1 [] [(12, .b (decide ((k : Int) < (slices.length : Int))))] {} (TL.ns (TC.cond (decide ((k : Int) < (slices.length : Int))) rfl Kr (fun h1 => ?_) (fun h1 => ?_))))
    · have hlt := ltN h1
      obtain ⟨x, hx⟩ := elN hlt
      have hd := drop_at hx
      refine TC.sn (TC.seq (TC.block (TC.sr (TL.v (sV (Instr.indexAt 48 (.slice A_slices slices.length c_slices) (.i (k : Int)))) 13 (.pointer (some (Ix A_slices (k * 1)))) (fun w hM => run_index (h_slices.sat hM) (sl_len he_slices) Kr (by have kp_ := hp.1; (try have kg_ := grow_len hr1); (try have kx_ := hp.2 _ (List.mem_of_getElem? hx)); (try have kx_ := hp.2 _ (List.mem_of_getElem? hx_2)); exact sd) (by have kp_ := hp.1; (try have kg_ := grow_len hr1); (try have kx_ := hp.2 _ (List.mem_of_getElem? hx)); (try have kx_ := hp.2 _ (List.mem_of_getElem? hx_2)); exact sd)) {} ?_))))
      have s_s1 := (el_rd (sl_all hd_slices k) (sl_at he_slices hx)).short; rw [List.length_map] at s_s1
      refine TL.v (sV (Instr.loadAt 53 (.pointer (some (Ix A_slices (k * 1)))))) 14 (.slice ((o_slices[k]?.getD Sl.zero).A) x.length ((o_slices[k]?.getD Sl.zero).cap)) (fun w hM => (by have h := run_load_one (P := Try.prog) (T := 53) (off := 0) (i := k) (.slice (o_slices[k]?.getD Sl.zero).A (o_slices[k]?.getD Sl.zero).l.length (o_slices[k]?.getD Sl.zero).cap) (h_slices.sat hM) (map_at (getD_at _ _ Sl.zero (sl_lt he_slices (List.getElem?_eq_some_iff.1 hx).1))) Kr Kr; rw [(sl_at he_slices hx)] at h; exact h)) {} ?_
      refine TL.r 3 [] [(5, .slice ((o_slices[k]?.getD Sl.zero).A) x.length ((o_slices[k]?.getD Sl.zero).cap))] {} (TL.nr (TL.r 5 [] [(3, .i (w64 (size + (x.length : Int))))] {} (TL.nr (TL.r 2 [] [(20, .b (decide ((w64 (size + (x.length : Int))) < 0)))] {} (TL.next rfl (TC.cond (decide ((w64 (size + (x.length : Int))) < 0)) rfl Kr (fun h2 => ?_) (fun h2 => ?_)))))))
      · exact ((by have kx_ := hp.2 _ (List.mem_of_getElem? hx); have h_ := dec_t h2; have := hp.1; rw [w64_id (by omega)] at h_; omega) : False).elim
      · have q2_0 := (dec_f h2)
        exact TC.skip (TE.nb (TE.next (TC.region (TL.r 2 [] [(11, .i (w64 ((k : Int) + 1)))] {} (TL.done rfl (TE.rw 11 (.i (w64 ((k : Int) + 1))) (.i ((k + 1 : Nat) : Int)) Kr (w64_cast k (by have kp_ := hp.1; (try have kg_ := grow_len hr1); (try have kx_ := hp.2 _ (List.mem_of_getElem? hx)); (try have kx_ := hp.2 _ (List.mem_of_getElem? hx_2)); omega)) (TE.again (x := (k, size)) (k + 1, w64 (size + (x.length : Int))) ⟨by omega, hI.trans (by rw [hd]; exact cond_f h2 (rfl)), (by have kp_ := hp.1; (try have kg_ := grow_len hr1); (try have kx_ := hp.2 _ (List.mem_of_getElem? hx)); (try have kx_ := hp.2 _ (List.mem_of_getElem? hx_2)); exact sl)⟩ (mN hlt) Kr (sb 0))))))))
    · have hd := dropN h1
      refine TC.exit (TE.et (TE.et (TE.exit_same ?_)))
      exact TE.cut size (⟨hI.trans (by rw [hd]; exact rfl), (by have kp_ := hp.1; (try have kg_ := grow_len hr1); (try have kx_ := hp.2 _ (List.mem_of_getElem? hx)); (try have kx_ := hp.2 _ (List.mem_of_getElem? hx_2)); exact sl)⟩) Kr (sb 0)
  · rintro size_2 ⟨hJ, hl_ov0_0⟩
    refine TE.nr (TL.r 1 [] [(23, .i size_2)] {} (TL.cn (Γ := AN) 24 (slices_Grow_int_int size_2) (fun r1 g => .slice g.1 r1.length g.2) (fun r1 g => [Ow g.1 g.2 3 1 (r1.map ic)]) (fun w _ => slices_Grow_int_int_w size_2 w (by have kp_ := hp.1; (try have kg_ := grow_len hr1); (try have kx_ := hp.2 _ (List.mem_of_getElem? hx)); (try have kx_ := hp.2 _ (List.mem_of_getElem? hx_2)); exact sg)) {} (fun r1 hr1 => ?_)))
    rintro ⟨A, c⟩
    refine TL.know (fun w hM => hM.short_at 0 rfl) (fun s_r1_0 => TL.r 3 [] [(6, .slice A r1.length c)] {} (TL.ns (TC.sr (TL.r 3 [] [(25, .slice A_slices slices.length c_slices), (26, .i (slices.length : Int)), (27, .i 0)] {} (TL.next rfl ?_)))))
    obtain ⟨R2, hR_2⟩ : ∃ R, R = slices_Concat_int_int_L2 slices 0 r1 := ⟨_, rfl⟩
    refine TC.cut (S := (List Int) × (Option Addr) × Nat) (fun (newslice_2, A_newslice_2, c_newslice_2) => [(6, .slice A_newslice_2 newslice_2.length c_newslice_2)]) (fun (newslice_2, A_newslice_2, c_newslice_2) => [Ow A_newslice_2 c_newslice_2 3 1 (newslice_2.map ic)]) (fun (newslice_2, A_newslice_2, c_newslice_2) => R2 = newslice_2 ∧ newslice_2.length ≤ r1.length + 100000 * slices.length) ?_ ?_
    · refine TC.block (TC.lw (X := Nat × (List Int) × (Option Addr) × Nat) (fun (k_2, newslice, A_newslice, c_newslice) => [(6, .slice A_newslice newslice.length c_newslice), (25, .slice A_slices slices.length c_slices), (26, .i (slices.length : Int)), (27, .i (k_2 : Int))]) (fun (k_2, newslice, A_newslice, c_newslice) => [Ow A_newslice c_newslice 3 1 (newslice.map ic)]) (fun (k_2, newslice, A_newslice, c_newslice) => slices.length - k_2) (fun (k_2, newslice, A_newslice, c_newslice) => k_2 ≤ slices.length ∧ R2 = slices_Concat_int_int_L2 (slices.drop k_2) k_2 newslice ∧ newslice.length ≤ r1.length + 100000 * k_2) ?_ (0, r1, A, c) ⟨Nat.zero_le _, hR_2, sz⟩ Kr (sb 1))
      rintro ⟨k_2, newslice, A_newslice, c_newslice⟩ ⟨hk_2, hI_2, hl_newslice⟩
      refine TC.sr (TL.r 1 [] [(28, .b (decide ((k_2 : Int) < (slices.length : Int))))] {} (TL.ns (TC.cond (decide ((k_2 : Int) < (slices.length : Int))) rfl Kr (fun h3 => ?_) (fun h3 => ?_))))
      · have hlt_2 := ltN h3
        obtain ⟨x_2, hx_2⟩ := elN hlt_2
        have hd_2 := drop_at hx_2
        refine TC.sn (TC.seq (TC.block (TC.sr (TL.v (sV (Instr.indexAt 48 (.slice A_slices slices.length c_slices) (.i (k_2 : Int)))) 29 (.pointer (some (Ix A_slices (k_2 * 1)))) (fun w hM => run_index (h_slices.sat hM) (sl_len he_slices) Kr (by have kp_ := hp.1; (try have kg_ := grow_len hr1); (try have kx_ := hp.2 _ (List.mem_of_getElem? hx)); (try have kx_ := hp.2 _ (List.mem_of_getElem? hx_2)); exact sd) (by have kp_ := hp.1; (try have kg_ := grow_len hr1); (try have kx_ := hp.2 _ (List.mem_of_getElem? hx)); (try have kx_ := hp.2 _ (List.mem_of_getElem? hx_2)); exact sd)) {} ?_))))
        have s_s2 := (el_rd (sl_all hd_slices k_2) (sl_at he_slices hx_2)).short; rw [List.length_map] at s_s2
        refine TL.v (sV (Instr.loadAt 53 (.pointer (some (Ix A_slices (k_2 * 1)))))) 30 (.slice ((o_slices[k_2]?.getD Sl.zero).A) x_2.length ((o_slices[k_2]?.getD Sl.zero).cap)) (fun w hM => (by have h := run_load_one (P := Try.prog) (T := 53) (off := 0) (i := k_2) (.slice (o_slices[k_2]?.getD Sl.zero).A (o_slices[k_2]?.getD Sl.zero).l.length (o_slices[k_2]?.getD Sl.zero).cap) (h_slices.sat hM) (map_at (getD_at _ _ Sl.zero (sl_lt he_slices (List.getElem?_eq_some_iff.1 hx_2).1))) Kr Kr; rw [(sl_at he_slices hx_2)] at h; exact h)) {} ?_
        refine TL.r 3 [] [(8, .slice ((o_slices[k_2]?.getD Sl.zero).A) x_2.length ((o_slices[k_2]?.getD Sl.zero).cap))] {} (TL.next rfl (TC.region (TL.r 2 [] [(31, .slice A_newslice newslice.length c_newslice), (32, .slice ((o_slices[k_2]?.getD Sl.zero).A) x_2.length ((o_slices[k_2]?.getD Sl.zero).cap))] {} (TL.os (Γ := AN) (sV (Builtin.append_ #[53, 53] 53 #[.slice A_newslice newslice.length c_newslice, .slice ((o_slices[k_2]?.getD Sl.zero).A) x_2.length ((o_slices[k_2]?.getD Sl.zero).cap)])) 33 (fun g => .slice g.1 (newslice ++ x_2).length g.2) 0 (fun g => Ow g.1 g.2 3 1 ((newslice ++ x_2).map ic)) (app_at (bytes := 8) 53 0 x_2 Kr rfl rfl ic_one rfl (fun w hM => (el_rd ((sl_all hd_slices k_2).sat hM) (sl_at he_slices hx_2))) rfl (by have kp_ := hp.1; (try have kg_ := grow_len hr1); (try have kx_ := hp.2 _ (List.mem_of_getElem? hx)); (try have kx_ := hp.2 _ (List.mem_of_getElem? hx_2)); exact sa)) {} ?_))))
        rintro ⟨A_2, c_2⟩
        exact TL.r 4 [] [(6, .slice A_2 ((newslice ++ x_2).length) c_2)] {} (TL.done rfl (TE.nb (TE.next (TC.region (TL.r 2 [] [(27, .i (w64 ((k_2 : Int) + 1)))] {} (TL.done rfl (TE.rw 27 (.i (w64 ((k_2 : Int) + 1))) (.i ((k_2 + 1 : Nat) : Int)) Kr (w64_cast k_2 (by have kp_ := hp.1; (try have kg_ := grow_len hr1); (try have kx_ := hp.2 _ (List.mem_of_getElem? hx)); (try have kx_ := hp.2 _ (List.mem_of_getElem? hx_2)); omega)) (TE.again (x := (k_2, newslice, A_newslice, c_newslice)) (k_2 + 1, (newslice ++ x_2), A_2, c_2) ⟨by omega, hI_2.trans (by subst hr1; rw [hd_2]; exact rfl), (by have kp_ := hp.1; (try have kg_ := grow_len hr1); (try have kx_ := hp.2 _ (List.mem_of_getElem? hx)); (try have kx_ := hp.2 _ (List.mem_of_getElem? hx_2)); exact sl)⟩ (mN hlt_2) Kr (sb 1)))))))))
      · have hd_2 := dropN h3
        refine TC.exit (TE.et (TE.et (TE.exit_same ?_)))
        exact TE.cut (newslice, A_newslice, c_newslice) (⟨hI_2.trans (by subst hr1; rw [hd_2]; exact rfl), (by have kp_ := hp.1; (try have kg_ := grow_len hr1); (try have kx_ := hp.2 _ (List.mem_of_getElem? hx)); (try have kx_ := hp.2 _ (List.mem_of_getElem? hx_2)); exact sl)⟩) Kr (sb 1)
    · rintro ⟨newslice_2, A_newslice_2, c_newslice_2⟩ ⟨hJ_2, hl_newslice_2⟩
      refine TE.nr (TL.r 2 [] [(2, .slice A_newslice_2 newslice_2.length c_newslice_2)] {} (TL.next rfl (TC.ret ?_)))
      have e : slices_Concat_int_int slices = newslice_2 := by subst hr1; unfold slices_Concat_int_int; exact bindv_eq (hR.symm.trans hJ) (bindv_eq (hR_2.symm.trans hJ_2) (rfl))
      rw [e]
      exact TE.retM (.inl rfl) (A_newslice_2, c_newslice_2) [] (.slice A_newslice_2 newslice_2.length c_newslice_2) {} rfl (fun _ hM => hM.sub (sb 1))
def slices_Clone_bool_bool (s : List Bool) : List Bool :=
  s
set_option maxRecDepth 100000 in
theorem slices_Clone_bool_bool_w (A_s : Option Addr) (c_s : Nat) (s : List Bool) (w : World) (h_s : Rd w 1 A_s (s.map bc)) (_hc_s : s.length ≤ c_s) (hb : s.length * 1 ≤ 140737488355328) : Calls Try.prog 32 #[.slice A_s s.length c_s] w (RetM (Γ := (Option Addr × Nat)) (cx w) (fun g => .slice g.1 ((slices_Clone_bool_bool s).length) g.2) (fun g => [.inr (Own g.1 g.2 4 1 ((slices_Clone_bool_bool s).map bc))])) := by
  have s_s := h_s.short; rw [List.length_map] at s_s
  rcases A_s with _ | a
  · have hz : s = [] := nil_of_none h_s
    subst hz
    refine calls_intro (vs := [.slice none 0 c_s]) (w := w) Try.func32 rfl Try.ntmps32 rfl (TC.weak [(0, .slice none 0 c_s)] Kr (TC.sr (TL.r 1 [] [(2, .slice none 0 0)] {} (TL.ns (TC.sr (TL.r 2 [] [(4, .b true)] {} (TL.next rfl (TC.condT rfl Kr (TC.sr (TL.r 1 [] [(2, .slice none 0 0)] {} (TL.next rfl (TC.ret (TE.rt ?_)))))))))))))
    have e : slices_Clone_bool_bool [] = ([]) := rfl
    refine TE.conv [Ow none 0 4 1 (([] : List Bool).map bc)] (fun _ hM => hM.emptyrow none 4 1) ?_
    rw [e]
    exact TE.retM (.inl rfl) (none, 0) [] (.slice none 0 0) {} rfl (fun _ hM => hM.sub (sb 1))
  · refine calls_intro (vs := [.slice (some a) s.length c_s]) (w := w) Try.func32 rfl Try.ntmps32 rfl (TC.weak [(0, .slice (some a) s.length c_s)] Kr (TC.sr (TL.r 1 [] [(2, .slice none 0 0)] {} (TL.ns (TC.sr (TL.r 2 [] [(4, .b false)] {} (TL.next rfl (TC.condF rfl Kr (TC.snr (TL.nw 5 (fun b1 => .slice (Pa b1) 0 0) (fun b1 => Bk b1 #[] 4) (fun b1 => {}) (fun b1 => TL.r 2 [] [(6, .slice (some a) s.length c_s)] {} (TL.conv [Ow (Pa b1) 0 4 1 (([] : List Bool).map bc)] (fun _ hM => by exact hM.litrow 0 (([] : List Bool).map bc) rfl Kr Kr Kr Kr) (TL.os (Γ := AN) (sV (Builtin.append_ #[56, 56] 56 #[.slice (Pa b1) (([] : List Bool).length) 0, .slice (some a) s.length c_s])) 7 (fun g => .slice g.1 (([] : List Bool) ++ s).length g.2) 0 (fun g => Ow g.1 g.2 4 1 ((([] : List Bool) ++ s).map bc)) (app_at (bytes := 1) 56 0 s Kr rfl rfl bc_one rfl (fun w hM => (h_s.sat hM)) rfl sa) {} ?_)))))))))))))
    rintro ⟨A, c⟩
    refine TL.r 4 [] [(2, .slice A ((([] : List Bool) ++ s).length) c)] {} (TL.next rfl (TC.ret ?_))
    have e : slices_Clone_bool_bool s = (([] : List Bool) ++ s) := rfl
    rw [e]
    exact TE.retM (.inl rfl) (A, c) [] (.slice A ((([] : List Bool) ++ s).length) c) {} rfl (fun _ hM => hM.sub (sb 1))
def math_bits_Mul64 (x : Int) (y : Int) : Int × Int :=
  let r1 := kand .u64 x 4294967295
  let r2 := x.fdiv (2 ^ 32)
  let r3 := kand .u64 y 4294967295
  let r4 := y.fdiv (2 ^ 32)
  let r5 := wu64 (r1 * r3)
  let r6 := wu64 ((wu64 (r2 * r3)) + (r5.fdiv (2 ^ 32)))
  let r7 := kand .u64 r6 4294967295
  let r8 := r6.fdiv (2 ^ 32)
  let r9 := wu64 (r7 + (wu64 (r1 * r4)))
  (wu64 ((wu64 ((wu64 (r2 * r4)) + r8)) + (r9.fdiv (2 ^ 32))), wu64 (x * y))
set_option maxRecDepth 100000 in
theorem math_bits_Mul64_w (x : Int) (y : Int) (w : World) : Calls Try.prog 73 #[.int .u64 x, .int .u64 y] w (Ret w (.tuple #[.int .u64 ((math_bits_Mul64 x y).1), .int .u64 ((math_bits_Mul64 x y).2)])) := by
  refine calls_intro (vs := [.int .u64 x, .int .u64 y]) (w := w) Try.func73 rfl Try.ntmps73 rfl (TC.sr (TL.r 2 [] [(4, .int .u64 0), (5, .int .u64 0)] {} (TL.nr (TL.r 3 [] [(6, .int .u64 (kand .u64 x 4294967295))] {} ?_))))
  generalize hr1 : kand .u64 x 4294967295 = r1
  refine TL.nr (TL.r 3 [] [(7, .int .u64 (x.fdiv (2 ^ 32)))] {} ?_)
  generalize hr2 : x.fdiv (2 ^ 32) = r2
  refine TL.nr (TL.r 3 [] [(8, .int .u64 (kand .u64 y 4294967295))] {} ?_)
  generalize hr3 : kand .u64 y 4294967295 = r3
  refine TL.nr (TL.r 3 [] [(9, .int .u64 (y.fdiv (2 ^ 32)))] {} ?_)
  generalize hr4 : y.fdiv (2 ^ 32) = r4
  refine TL.nr (TL.r 4 [] [(10, .int .u64 (wu64 (r1 * r3)))] {} ?_)
  generalize hr5 : wu64 (r1 * r3) = r5
  refine TL.nr (TL.r 7 [] [(11, .int .u64 (wu64 ((wu64 (r2 * r3)) + (r5.fdiv (2 ^ 32)))))] {} ?_)
  generalize hr6 : wu64 ((wu64 (r2 * r3)) + (r5.fdiv (2 ^ 32))) = r6
  refine TL.nr (TL.r 3 [] [(12, .int .u64 (kand .u64 r6 4294967295))] {} ?_)
  generalize hr7 : kand .u64 r6 4294967295 = r7
  refine TL.nr (TL.r 3 [] [(13, .int .u64 (r6.fdiv (2 ^ 32)))] {} ?_)
  generalize hr8 : r6.fdiv (2 ^ 32) = r8
  refine TL.nr (TL.r 6 [] [(12, .int .u64 (wu64 (r7 + (wu64 (r1 * r4)))))] {} ?_)
  generalize hr9 : wu64 (r7 + (wu64 (r1 * r4))) = r9
  exact TL.nr (TL.r 9 [] [(4, .int .u64 (wu64 ((wu64 ((wu64 (r2 * r4)) + r8)) + (r9.fdiv (2 ^ 32)))))] {} (TL.nr (TL.r 4 [] [(5, .int .u64 (wu64 (x * y)))] {} (TL.next rfl (TC.ret (TE.ret [] (.tuple #[.int .u64 (wu64 ((wu64 ((wu64 (r2 * r4)) + r8)) + (r9.fdiv (2 ^ 32)))), .int .u64 (wu64 (x * y))]) {} (by unfold math_bits_Mul64; refine eS (a := (wu64 ((wu64 ((wu64 (r2 * r4)) + r8)) + (r9.fdiv (2 ^ 32))), wu64 (x * y))) (fun (z : Int × Int) => (.tuple #[.int .u64 z.1, .int .u64 z.2] : Value)) ?_; subst hr1 hr2 hr3 hr4 hr5 hr6 hr7 hr8 hr9; exact rfl)))))))
def math_bits_Mul (x : Int) (y : Int) : Int × Int :=
  let r1 := math_bits_Mul64 x y
  (r1.1, r1.2)
set_option maxRecDepth 100000 in
theorem math_bits_Mul_w (x : Int) (y : Int) (w : World) : Calls Try.prog 57 #[.int .u64 x, .int .u64 y] w (Ret w (.tuple #[.int .u64 ((math_bits_Mul x y).1), .int .u64 ((math_bits_Mul x y).2)])) := by
  exact calls_intro (vs := [.int .u64 x, .int .u64 y]) (w := w) Try.func57 rfl Try.ntmps57 rfl (TC.sr (TL.r 2 [] [(4, .int .u64 0), (5, .int .u64 0)] {} (TL.ns (TC.condF rfl Kr (TC.snr (TL.r 2 [] [(23, .int .u64 x), (24, .int .u64 y)] {} (TL.c 25 (math_bits_Mul64 x y) (fun r1 => .tuple #[.int .u64 r1.1, .int .u64 r1.2]) (fun w _ => math_bits_Mul64_w x y w) {} (fun r1 hr1 => TL.r 8 [] [(8, .int .u64 r1.1), (9, .int .u64 r1.2)] {} (TL.nr (TL.r 4 [] [(4, .int .u64 r1.1), (5, .int .u64 r1.2)] {} (TL.next rfl (TC.ret (TE.ret [] (.tuple #[.int .u64 r1.1, .int .u64 r1.2]) {} (by unfold math_bits_Mul; refine eS (a := (r1.1, r1.2)) (fun (z : Int × Int) => (.tuple #[.int .u64 z.1, .int .u64 z.2] : Value)) ?_; subst hr1; exact rfl))))))))))))))
def slices_Repeat_int_int_L1 : Nat → Int → (List Int) → Option (List Int)
  | 0, _, _ => none
  | m + 1, n, newslice => cond (decide (n < (newslice.length : Int))) (
      slices_Repeat_int_int_L1 m (w64 (n + ((min (newslice.drop n.toNat).length (newslice.take n.toNat).length : Nat) : Int))) (cpy newslice n.toNat (newslice.take n.toNat))) (
      some (newslice))
def slices_Repeat_int_int (x : List Int) (count : Int) : List Int :=
  cond (decide (count < 0)) (
    []) (
    let r1 := math_bits_Mul (wu64 (x.length : Int)) (wu64 count)
    cond ((decide (r1.1 > 0)) || (decide (r1.2 > 9223372036854775807))) (
      []) (
      bindv ((slices_Repeat_int_int_L1 ((w64 r1.2).toNat + 1) ((min ((List.replicate ((w64 r1.2).toNat) (0:Int)).drop 0).length x.length : Nat) : Int) (cpy (List.replicate ((w64 r1.2).toNat) (0:Int)) 0 x)).getD []) (fun newslice_2 =>
        newslice_2)))
theorem mul_tab : (List.range 65).all (fun n => math_bits_Mul (wu64 1) (wu64 (n : Int)) == (0, (n : Int))) = true := by kernel_rfl
theorem mul_few {a b : Int} {r : Int × Int} (ha : a = 1) (hb : 1 ≤ b ∧ b ≤ 64) (h : math_bits_Mul (wu64 a) (wu64 b) = r) : r = (0, b) := by
  subst ha h
  obtain ⟨n, rfl⟩ : ∃ n : Nat, b = (n : Int) := ⟨b.toNat, by omega⟩
  exact eq_of_beq (List.all_eq_true.1 mul_tab n (List.mem_range.2 (by omega)))
theorem mul_dead {a b : Int} {r : Int × Int} (ha : a = 1) (hb : 1 ≤ b ∧ b ≤ 64) (h : math_bits_Mul (wu64 a) (wu64 b) = r) (h2 : (decide (r.1 > 0) || decide (r.2 > 9223372036854775807)) = true) : False := by
  rw [mul_few ha hb h] at h2
  simp at h2
  omega
theorem mul_w {a b : Int} {r : Int × Int} (ha : a = 1) (hb : 1 ≤ b ∧ b ≤ 64) (h : math_bits_Mul (wu64 a) (wu64 b) = r) : w64 r.2 = b := by
  rw [mul_few ha hb h]
  exact w64_id (by omega)
theorem rep_total : ∀ (m : Nat) (n : Int) (l : List Int), 1 ≤ n → n ≤ (l.length : Int) → l.length ≤ 64 → l.length - n.toNat ≤ m → ∃ R, slices_Repeat_int_int_L1 (m + 1) n l = some R
  | m, n, l, h1, h2, h3, hm => by
    unfold slices_Repeat_int_int_L1
    cases h : decide (n < (l.length : Int)) with
    | false => exact ⟨_, rfl⟩
    | true =>
      have hlt := of_decide_eq_true h
      rw [cond_true]
      have e : (cpy l n.toNat (l.take n.toNat)).length = l.length := cpy_length (by omega)
      have e2 : (min (l.drop n.toNat).length (l.take n.toNat).length : Nat) = min (l.length - n.toNat) n.toNat := by simp only [List.length_drop, List.length_take]; omega
      obtain ⟨m, rfl⟩ : ∃ q, m = q + 1 := ⟨m - 1, by omega⟩
      rw [e2, w64_id (by omega)]
      exact rep_total m _ _ (by omega) (by rw [e]; omega) (by rw [e]; exact h3) (by rw [e]; omega)
theorem rep_first {x : List Int} {n : Nat} (hx : x.length = 1) (hn : 1 ≤ n ∧ n ≤ 64) : ∃ R, slices_Repeat_int_int_L1 (n + 1) ((min ((List.replicate n (0:Int)).drop 0).length x.length : Nat) : Int) (cpy (List.replicate n (0:Int)) 0 x) = some R := by
  have e : (cpy (List.replicate n (0:Int)) 0 x).length = n := by rw [cpy_length (Nat.zero_le _), List.length_replicate]
  have e2 : (min ((List.replicate n (0:Int)).drop 0).length x.length : Nat) = 1 := by rw [List.drop_zero, List.length_replicate, hx]; omega
  rw [e2]
  exact rep_total n _ _ (by decide) (by rw [e]; omega) (by rw [e]; omega) (by rw [e]; omega)
theorem rep_init {x : List Int} {n : Nat} {c : Int} (hx : x.length = 1) (hn : 1 ≤ n) (hc : (n : Int) = c) : 1 ≤ ((min ((List.replicate n (0:Int)).drop 0).length x.length : Nat) : Int) ∧ ((min ((List.replicate n (0:Int)).drop 0).length x.length : Nat) : Int) ≤ ((cpy (List.replicate n (0:Int)) 0 x).length : Int) ∧ ((cpy (List.replicate n (0:Int)) 0 x).length : Int) = c := by
  have e : (cpy (List.replicate n (0:Int)) 0 x).length = n := by rw [cpy_length (Nat.zero_le _), List.length_replicate]
  have e2 : (min ((List.replicate n (0:Int)).drop 0).length x.length : Nat) = 1 := by rw [List.drop_zero, List.length_replicate, hx]; omega
  rw [e, e2]
  omega
theorem rep_step {l : List Int} {n c : Int} (h : 1 ≤ n ∧ n ≤ (l.length : Int) ∧ (l.length : Int) = c) (hc : c ≤ 64) (hlt : n < (l.length : Int)) : 1 ≤ w64 (n + ((min (l.drop n.toNat).length (l.take n.toNat).length : Nat) : Int)) ∧ w64 (n + ((min (l.drop n.toNat).length (l.take n.toNat).length : Nat) : Int)) ≤ ((cpy l n.toNat (l.take n.toNat)).length : Int) ∧ ((cpy l n.toNat (l.take n.toNat)).length : Int) = c := by
  have e : (cpy l n.toNat (l.take n.toNat)).length = l.length := cpy_length (by omega)
  have e2 : (min (l.drop n.toNat).length (l.take n.toNat).length : Nat) = min (l.length - n.toNat) n.toNat := by simp only [List.length_drop, List.length_take]; omega
  rw [e, e2, w64_id (by omega)]
  omega
set_option maxRecDepth 100000 in
theorem slices_Repeat_int_int_w (A_x : Option Addr) (c_x : Nat) (x : List Int) (count : Int) (w : World) (h_x : Rd w 1 A_x (x.map ic)) (_hc_x : x.length ≤ c_x) (hp : x.length = 1 ∧ 1 ≤ count ∧ count ≤ 64) : Calls Try.prog 45 #[.slice A_x x.length c_x, .int .i64 count] w (RetM (Γ := (Option Addr × Nat)) (cx w) (fun g => .slice g.1 ((slices_Repeat_int_int x count).length) g.2) (fun g => [.inr (Own g.1 g.2 3 1 ((slices_Repeat_int_int x count).map ic))])) := by
  have s_x := h_x.short; rw [List.length_map] at s_x
  refine calls_intro (vs := [.slice A_x x.length c_x, .i count]) (w := w) Try.func45 rfl Try.ntmps45 rfl (TC.sr (TL.r 1 [] [(4, .slice none 0 0)] {} (TL.ns (TC.sr (TL.r 2 [] [(10, .b (decide (count < 0)))] {} (TL.next rfl (TC.cond (decide (count < 0)) rfl Kr (fun h1 => ?_) (fun h1 => ?_))))))))
  · exact ((by have := dec_t h1; omega) : False).elim
  · have q1_0 := (dec_f h1)
    refine TC.snr (TL.r 5 [] [(15, .int .u64 (wu64 (x.length : Int))), (17, .int .u64 (wu64 count))] {} (TL.c 18 (math_bits_Mul (wu64 (x.length : Int)) (wu64 count)) (fun r1 => .tuple #[.int .u64 r1.1, .int .u64 r1.2]) (fun w _ => math_bits_Mul_w (wu64 (x.length : Int)) (wu64 count) w) {} (fun r1 hr1 => ?_)))
    have m4_ := mul_w (by omega) hp.2 hr1
    refine TL.r 11 [] [(5, .int .u64 r1.1), (6, .int .u64 r1.2)] {} (TL.ns (TC.sr (TL.r 3 [] [(23, .b (decide (r1.1 > 0)))] {} (TL.j 23 (decide (r1.1 > 0)) 6 [] [] (fun β => [(26, .b (β || (decide (r1.2 > 9223372036854775807))))]) Kr {} {} (TL.next rfl (TC.cond ((decide (r1.1 > 0)) || (decide (r1.2 > 9223372036854775807))) rfl Kr (fun h2 => ?_) (fun h2 => ?_)))))))
    · exact ((mul_dead (by omega) hp.2 hr1 h2) : False).elim
    · have q2_0 := (dec_f (or_f1 h2))
      have q2_1 := (dec_f (or_f2 h2))
      refine TC.snr (TL.r 2 [] [(29, .i (w64 r1.2))] {} (TL.rw 29 (.i (w64 r1.2)) (.i (((w64 r1.2).toNat : Nat) : Int)) Kr (int_eq (Int.toNat_of_nonneg (by (try have kq_ := of_decide_eq_true h3); exact sd)).symm) (TL.on (Γ := AN) (sV (Instr.makeSlice 53 (.i (((w64 r1.2).toNat : Nat) : Int)) (.i (((w64 r1.2).toNat : Nat) : Int)))) 30 (fun g => .slice g.1 (List.replicate ((w64 r1.2).toNat) (0:Int)).length g.2) (fun g => Ow g.1 g.2 3 1 ((List.replicate ((w64 r1.2).toNat) (0:Int)).map ic)) (make_at (P := Try.prog) (c := ic) (t := 53) (e := 3) (sz := 1) (bytes := 8) 0 .i64 .i64 ((w64 r1.2).toNat) Kr Kr (by (try have kq_ := of_decide_eq_true h3); exact sd) (by (try have kq_ := of_decide_eq_true h3); exact sd)) {} ?_)))
      rintro ⟨A, c⟩
      refine TL.r 4 [] [(7, .slice A ((List.replicate ((w64 r1.2).toNat) (0:Int)).length) c)] {} (TL.nr (TL.r 2 [] [(31, .slice A ((List.replicate ((w64 r1.2).toNat) (0:Int)).length) c), (32, .slice A_x x.length c_x)] {} ?_))
      have hlcp_ : (cpy (List.replicate ((w64 r1.2).toNat) (0:Int)) 0 x).length = (List.replicate ((w64 r1.2).toNat) (0:Int)).length := cpy_length (Nat.zero_le _)
      refine TL.opM (Γ := Unit) (sV (Builtin.copy_ #[53, 53] 3 #[.slice A ((List.replicate ((w64 r1.2).toNat) (0:Int)).length) c, .slice A_x x.length c_x])) (some 33) (fun _ => .i ((min ((List.replicate ((w64 r1.2).toNat) (0:Int)).drop 0).length x.length : Nat) : Int)) (fun _ => [Ow A c 3 1 ((cpy (List.replicate ((w64 r1.2).toNat) (0:Int)) 0 x).map ic)]) (fun _ => [(7, .slice A ((List.replicate ((w64 r1.2).toNat) (0:Int)).length) c), (33, .i ((min ((List.replicate ((w64 r1.2).toNat) (0:Int)).drop 0).length x.length : Nat) : Int))]) (copy_own (c := ic) (o := 0) (l := (List.replicate ((w64 r1.2).toNat) (0:Int))) (s := x) 0 rfl (Eq.symm (by rw [Nat.zero_mul]; split; rfl; exact addr_zero _)) ic_one (fun _ => rfl) Kr Kr (by (try have kq_ := of_decide_eq_true h3); exact sd) (by (try have kq_ := of_decide_eq_true h3); exact sd) (fun w hM => (h_x.sat hM))) Kr (fun _ => Kr) (fun _ => TL.rw 7 (.slice A ((List.replicate ((w64 r1.2).toNat) (0:Int)).length) c) (.slice A ((cpy (List.replicate ((w64 r1.2).toNat) (0:Int)) 0 x).length) c) Kr (by rw [hlcp_]) (TL.r 4 [] [(8, .i ((min ((List.replicate ((w64 r1.2).toNat) (0:Int)).drop 0).length x.length : Nat) : Int))] {} (TL.ns ?_)))
      obtain ⟨R2, hR⟩ : ∃ R, slices_Repeat_int_int_L1 ((w64 r1.2).toNat + 1) ((min ((List.replicate ((w64 r1.2).toNat) (0:Int)).drop 0).length x.length : Nat) : Int) (cpy (List.replicate ((w64 r1.2).toNat) (0:Int)) 0 x) = some R := (by rw [m4_]; exact rep_first hp.1 (by omega))
      refine TC.cut (S := (List Int)) (fun newslice_2 => [(7, .slice A newslice_2.length c)]) (fun newslice_2 => [Ow A c 3 1 (newslice_2.map ic)]) (fun newslice_2 => R2 = newslice_2 ∧ newslice_2.length = (cpy (List.replicate ((w64 r1.2).toNat) (0:Int)) 0 x).length) ?_ ?_
      · refine TC.block (TC.lw (X := Nat × Int × (List Int)) (fun (m, n, newslice) => [(7, .slice A newslice.length c), (8, .i n)]) (fun (m, n, newslice) => [Ow A c 3 1 (newslice.map ic)]) (fun (m, n, newslice) => m) (fun (m, n, newslice) => m ≤ ((w64 r1.2).toNat + 1) ∧ slices_Repeat_int_int_L1 m n newslice = some R2 ∧ newslice.length = (cpy (List.replicate ((w64 r1.2).toNat) (0:Int)) 0 x).length ∧ (1 ≤ n ∧ n ≤ (newslice.length : Int) ∧ (newslice.length : Int) = count)) ?_ (((w64 r1.2).toNat + 1), ((min ((List.replicate ((w64 r1.2).toNat) (0:Int)).drop 0).length x.length : Nat) : Int), (cpy (List.replicate ((w64 r1.2).toNat) (0:Int)) 0 x)) ⟨Nat.le_refl _, hR, sz, (rep_init hp.1 (by omega) (by omega))⟩ Kr (sb 1))
        rintro ⟨m, n, newslice⟩ ⟨hk, hI, hl_newslice, hl_rp⟩
        rcases m with _ | m
        · cases hI
        refine TC.seq (TC.sr (TL.r 4 [] [(37, .b (decide (n < (newslice.length : Int))))] {} (TL.next rfl (TC.cond (decide (n < (newslice.length : Int))) rfl Kr (fun h3 => ?_) (fun h3 => ?_)))))
        · have q3_0 := (dec_t h3)
          refine TC.sn (TC.block (TC.know (fun w hM => hM.le_at 0 rfl) (fun hle0_ => ?_)))
          obtain ⟨A1, hA1⟩ : ∃ A0_, A0_ = (if c = n.toNat then A else A.map (fun a => a.add (n.toNat * 1))) := ⟨_, rfl⟩
          obtain ⟨A1_2, hA1_2⟩ : ∃ A0_, A0_ = (if c = 0 then A else A.map (fun a => a.add (0 * 1))) := ⟨_, rfl⟩
          have hlcp_ : (cpy newslice n.toNat (newslice.take n.toNat)).length = newslice.length := cpy_length (Nat.le_of_lt (by (try have kq_ := of_decide_eq_true h3); exact sd))
          refine TC.plan (G := Unit) (base := [(7, .slice A newslice.length c), (8, .i n)]) (vals := fun γ => [.i n, .slice A newslice.length c, .i n, .slice A1 ((newslice.drop n.toNat).length) (c - n.toNat), .slice A newslice.length c, .i n, .slice A1_2 ((newslice.take n.toNat).length) (c - 0), .i ((min (newslice.drop n.toNat).length (newslice.take n.toNat).length : Nat) : Int), .i (w64 (n + ((min (newslice.drop n.toNat).length (newslice.take n.toNat).length : Nat) : Int))), .i (w64 (n + ((min (newslice.drop n.toNat).length (newslice.take n.toNat).length : Nat) : Int)))]) (writes := [7]) (mem := fun bs γ => match bs with | [x7_] => (bif x7_ then [Ow A c 3 1 ((cpy newslice n.toNat (newslice.take n.toNat)).map ic)] else [Ow A c 3 1 (newslice.map ic)]) ++ ([]) | _ => []) (()) (fun γ => [(7, .slice A newslice.length c), (8, .i (w64 (n + ((min (newslice.drop n.toNat).length (newslice.take n.toNat).length : Nat) : Int))))]) Kr Kr Kr Kr Kr (fun γ => Kr) (fun _ hM => hM) (fun γ => Kr) ?_ ?_
          · skip
            exact Steps.run (i := 0) 3 [0, 0, 0] [] Kr Kr (fun S (γ : Unit) w hM => by rw [mS1 rfl] at hM; exact hM.sub (sub_skip (List.Sublist.refl _))) Kr (fun (γ : Unit) => {}) (Steps.val (i := 3) (fun (γ : Unit) => sV (Instr.sliceAt 53 (.slice A newslice.length c) (some (.i n)) none none)) (some 41) (fun (γ : Unit) => .slice A1 ((newslice.drop n.toNat).length) (c - n.toNat)) (fun _ => []) Kr (fun S (γ : Unit) w _ hM => by rw [mS1 rfl] at hM; exact hM.sub (sub_skip (List.Sublist.refl _))) (fun (γ : Unit) w hM => (run_slice n.toNat newslice.length Kr (.inr ⟨_, _, rfl, (by (try have kq_ := of_decide_eq_true h3); exact sd), rfl⟩) (.inl ⟨rfl, rfl⟩) (by (try have kq_ := of_decide_eq_true h3); exact sd) (Nat.le_trans (Nat.le_refl _) hle0_)).trans (by rw [hA1]; (try have kq_ := of_decide_eq_true h3); congr 3; simp only [List.length_drop])) (fun (γ : Unit) => Kr) (fun (γ : Unit) => Kr) (Steps.run (i := 4) 6 [0, 0] [] Kr Kr (fun S (γ : Unit) w hM => by rw [mS1 rfl] at hM; exact hM.sub (sub_skip (List.Sublist.refl _))) Kr (fun (γ : Unit) => {}) (Steps.val (i := 6) (fun (γ : Unit) => sV (Instr.sliceAt 53 (.slice A newslice.length c) none (some (.i n)) none)) (some 44) (fun (γ : Unit) => .slice A1_2 ((newslice.take n.toNat).length) (c - 0)) (fun _ => []) Kr (fun S (γ : Unit) w _ hM => by rw [mS1 rfl] at hM; exact hM.sub (sub_skip (List.Sublist.refl _))) (fun (γ : Unit) w hM => (run_slice 0 n.toNat Kr (.inl ⟨rfl, rfl⟩) (.inr ⟨_, _, rfl, (by (try have kq_ := of_decide_eq_true h3); exact sd), rfl⟩) (by (try have kq_ := of_decide_eq_true h3); exact sd) (Nat.le_trans (by (try have kq_ := of_decide_eq_true h3); exact sd) hle0_)).trans (by rw [hA1_2]; (try have kq_ := of_decide_eq_true h3); congr 3; first | (simp only [List.length_take] <;> omega) | (simp only [List.length_take] at * <;> omega))) (fun (γ : Unit) => Kr) (fun (γ : Unit) => Kr) (Steps.op (i := 7) (Γ := Unit) (fun g (γ : Unit) => g) (fun (γ : Unit) => [Ow A c 3 1 (newslice.map ic)]) (fun g (γ : Unit) => [Ow A c 3 1 ((cpy newslice n.toNat (newslice.take n.toNat)).map ic)]) (fun S (γ : Unit) => []) [7, 8, 9] (fun (γ : Unit) => sV (Builtin.copy_ #[53, 53] 3 #[.slice A1 ((newslice.drop n.toNat).length) (c - n.toNat), .slice A1_2 ((newslice.take n.toNat).length) (c - 0)])) (some 45) (fun g (γ : Unit) => .i ((min (newslice.drop n.toNat).length (newslice.take n.toNat).length : Nat) : Int)) (fun S (γ : Unit) hj hd hl => by rw [mS1 hj]; exact List.Perm.refl _) (fun S (γ : Unit) g _ => (List.Perm.refl _).symm) (fun (γ : Unit) M' w hM => copy_own (c := ic) (o := n.toNat) (l := newslice) (s := (newslice.take n.toNat)) 0 rfl hA1 ic_one (fun _ => rfl) Kr Kr (by (try have kq_ := of_decide_eq_true h3); exact sd) (by (try have kq_ := of_decide_eq_true h3); exact sd) (fun w hM => (by have hR0_ := hM.rd_at 0 rfl; have hC0_ := hM.le_at 0 rfl; rw [hA1_2]; exact hR0_.cutMap 0 n.toNat hC0_)) w hM) (fun (γ : Unit) => Kr) (fun (γ : Unit) g => Kr) Kr (fun (γ : Unit) g => Kr) (Steps.run (i := 8) 10 [0, 0] [] Kr Kr (fun S (γ : Unit) w hM => by rw [mS1 rfl] at hM; exact hM.sub (sub_skip (List.Sublist.refl _))) Kr (fun (γ : Unit) => {}) (Steps.done Kr))))))
          · rintro ⟨⟩
            exact TE.conv [Ow A c 3 1 ((cpy newslice n.toNat (newslice.take n.toNat)).map ic)] (fun _ hM => hM) (TE.rw 7 (.slice A newslice.length c) (.slice A ((cpy newslice n.toNat (newslice.take n.toNat)).length) c) Kr (by rw [hlcp_]) (TE.nb (TE.again (x := (m + 1, n, newslice)) (m, w64 (n + ((min (newslice.drop n.toNat).length (newslice.take n.toNat).length : Nat) : Int)), (cpy newslice n.toNat (newslice.take n.toNat))) ⟨by omega, (by subst hr1; refine Eq.trans (Eq.symm ?_) hI; exact cond_t h3 (rfl)), (by (try have kq_ := of_decide_eq_true h3); exact sl), (rep_step hl_rp hp.2.2 (of_decide_eq_true h3))⟩ (Nat.lt_succ_self _) Kr (sb 1))))
        · have q3_0 := (dec_f h3)
          refine TC.exit (TE.et (TE.et (TE.exit_same ?_)))
          exact TE.cut newslice (⟨Option.some.inj (hI.symm.trans (by subst hr1; exact cond_f h3 (rfl))), (by (try have kq_ := of_decide_eq_true h3); exact sl)⟩) Kr (sb 1)
      · rintro newslice_2 ⟨hJ, hl_newslice_2⟩
        refine TE.nr (TL.r 2 [] [(4, .slice A newslice_2.length c)] {} (TL.next rfl (TC.ret ?_)))
        have e : slices_Repeat_int_int x count = newslice_2 := by subst hr1; unfold slices_Repeat_int_int; exact cond_f h1 (cond_f h2 (bindv_eq ((congrArg (Option.getD · _) hR).trans hJ) (rfl)))
        rw [e]
        exact TE.retM (.inl rfl) (A, c) [] (.slice A newslice_2.length c) {} rfl (fun _ hM => hM.sub (sb 1))
end Go.Sky
