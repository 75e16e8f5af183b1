/- Functions of the program, each with the Lean function that it computes. Conditions: none. -/
import Derived.Test.YtakjcphknccdnaaDoorNumD
import Derived.Test.YtakjcphknccdnaaDoorGw
namespace Go.Sky
open Go Go.Eng Go.Proofs
def num_Root_L1 (n : Int) : Nat → Int → Int → Option Int
  | 0, _, _ => none
  | m + 1, low, high => cond (decide (low < high)) (
      cond (decide ((w64 ((w64 (low + (w64 ((w64 ((w64 (high - low)) + 1)).tdiv 2)))) * (w64 (low + (w64 ((w64 ((w64 (high - low)) + 1)).tdiv 2)))))) ≤ n)) (
        num_Root_L1 n m (w64 (low + (w64 ((w64 ((w64 (high - low)) + 1)).tdiv 2)))) high) (
        num_Root_L1 n m low (w64 ((w64 (low + (w64 ((w64 ((w64 (high - low)) + 1)).tdiv 2)))) - 1)))) (
      some (low))
def num_Root (n : Int) : Int :=
  cond (decide (n ≤ 0)) (
    0) (
    bindv ((num_Root_L1 n 34 0 3037000499).getD 0) (fun low_2 =>
      low_2))

theorem root_total (n : Int) : ∀ (j : Nat) (a b : Int), (0 ≤ a ∧ b ≤ 3037000499 ∧ b - a < 2 ^ j) → ∃ R, num_Root_L1 n (j + 1) a b = some R
  | 0, a, b, h => by
    have e : (2 : Int) ^ 0 = 1 := rfl
    have hk : decide (a < b) = false := by simp; omega
    exact ⟨a, by rw [num_Root_L1, hk]; rfl⟩
  | j + 1, a, b, h => by
    have e : (2 : Int) ^ (j + 1) = 2 * 2 ^ j := by rw [Int.pow_succ]; omega
    by_cases hk : a < b
    · have w1 : w64 (w64 (b - a) + 1) = b - a + 1 := by rw [w64_id (x := b - a) (by omega), w64_id (by omega)]
      have d1 : (b - a + 1).tdiv 2 = (b - a + 1) / 2 := Int.tdiv_eq_ediv_of_nonneg (by omega)
      have w2 : w64 ((w64 (w64 (b - a) + 1)).tdiv 2) = (b - a + 1) / 2 := by rw [w1, d1, w64_id (by omega)]
      have w3 : w64 (a + w64 ((w64 (w64 (b - a) + 1)).tdiv 2)) = a + (b - a + 1) / 2 := by rw [w2, w64_id (by omega)]
      rw [num_Root_L1, decide_eq_true hk]
      simp only [cond_true, w3]
      cases decide (w64 ((a + (b - a + 1) / 2) * (a + (b - a + 1) / 2)) ≤ n)
      · rw [cond_false, w64_id (by omega)]
        exact root_total n j a _ (by omega)
      · rw [cond_true]
        exact root_total n j _ b (by omega)
    · exact ⟨a, by rw [num_Root_L1, decide_eq_false hk]; rfl⟩

set_option maxRecDepth 100000 in
theorem num_Root_w (n : Int) (w : World) : Calls Tryd.prog 32 #[.int .i64 n] w (Ret w (.int .i64 (num_Root n))) := by
  refine calls_intro (vs := [.int .i64 n]) (w := w) Tryd.func32 rfl Tryd.ntmps32 rfl ?_
  refine TC.weak [(0, .int .i64 n)] (by kernel_rfl) ?_
  refine TC.seq ?_
  refine TC.region ?_
  refine TL.run 1 [] [(0, .int .i64 n)] rfl ⟨by kernel_rfl, by kernel_rfl⟩ ?_
  refine TL.next rfl ?_
  refine TC.seq ?_
  refine TC.seq ?_
  refine TC.region ?_
  refine TL.run 2 [] [(0, .int .i64 n), (7, .bool (decide (n ≤ 0)))] rfl ⟨by kernel_rfl, by kernel_rfl⟩ ?_
  refine TL.next rfl ?_
  refine TC.cond (decide (n ≤ 0)) rfl (by kernel_rfl) (fun h1 => ?_) (fun h1 => ?_)
  · refine TC.seq ?_
    refine TC.region ?_
    refine TL.run 1 [] [(2, .int .i64 0)] rfl ⟨by kernel_rfl, by kernel_rfl⟩ ?_
    refine TL.next rfl ?_
    refine TC.ret ?_
    refine TE.ret_then ?_
    have e : num_Root n = 0 := by unfold num_Root; exact cond_t h1 (rfl)
    exact TE.ret [] (.int .i64 0) ⟨by kernel_rfl, by kernel_rfl⟩ (by rw [e]; first | done | kernel_rfl)
  · refine TC.skip ?_
    refine TE.next ?_
    refine TC.seq ?_
    refine TC.region ?_
    refine TL.run 2 [] [(0, .int .i64 n), (3, .int .i64 0), (4, .int .i64 3037000499)] rfl ⟨by kernel_rfl, by kernel_rfl⟩ ?_
    refine TL.next rfl ?_
    refine TC.seq ?_
    refine TC.weak [(0, .int .i64 n), (3, .int .i64 0), (4, .int .i64 3037000499)] (by kernel_rfl) ?_
    obtain ⟨R1, hR⟩ : ∃ R, num_Root_L1 n 34 0 3037000499 = some R := root_total n 33 0 3037000499 (by omega)
    refine TC.cut (S := Int) (fun low_2 => [(3, .int .i64 low_2)]) (fun low_2 => []) (fun low_2 => R1 = low_2) ?_ ?_
    · refine TC.block ?_
      refine TC.loop (X := Nat × Int × Int) (fun (m, low, high) => [(0, .int .i64 n), (3, .int .i64 low), (4, .int .i64 high)]) (fun (m, low, high) => []) (fun (m, low, high) => m) (fun (m, low, high) => num_Root_L1 n m low high = some R1) ?_ (34, 0, 3037000499) hR
      rintro ⟨m, low, high⟩ hI
      rcases m with _ | m
      · cases hI
      refine TC.seq ?_
      refine TC.seq ?_
      refine TC.region ?_
      refine TL.run 3 [] [(0, .int .i64 n), (3, .int .i64 low), (4, .int .i64 high), (10, .bool (decide (low < high)))] rfl ⟨by kernel_rfl, by kernel_rfl⟩ ?_
      refine TL.next rfl ?_
      refine TC.cond (decide (low < high)) rfl (by kernel_rfl) (fun h2 => ?_) (fun h2 => ?_)
      · refine TC.skip ?_
        refine TE.next ?_
        refine TC.block ?_
        refine TC.seq ?_
        refine TC.region ?_
        refine TL.run 8 [] [(0, .int .i64 n), (3, .int .i64 low), (4, .int .i64 high), (5, .int .i64 (w64 (low + (w64 ((w64 ((w64 (high - low)) + 1)).tdiv 2)))))] rfl ⟨by kernel_rfl, by kernel_rfl⟩ ?_
        refine TL.next rfl ?_
        refine TC.seq ?_
        refine TC.region ?_
        refine TL.run 5 [] [(0, .int .i64 n), (3, .int .i64 low), (4, .int .i64 high), (5, .int .i64 (w64 (low + (w64 ((w64 ((w64 (high - low)) + 1)).tdiv 2))))), (22, .bool (decide ((w64 ((w64 (low + (w64 ((w64 ((w64 (high - low)) + 1)).tdiv 2)))) * (w64 (low + (w64 ((w64 ((w64 (high - low)) + 1)).tdiv 2)))))) ≤ n)))] rfl ⟨by kernel_rfl, by kernel_rfl⟩ ?_
        refine TL.next rfl ?_
        refine TC.cond (decide ((w64 ((w64 (low + (w64 ((w64 ((w64 (high - low)) + 1)).tdiv 2)))) * (w64 (low + (w64 ((w64 ((w64 (high - low)) + 1)).tdiv 2)))))) ≤ n)) rfl (by kernel_rfl) (fun h3 => ?_) (fun h3 => ?_)
        · refine TC.region ?_
          refine TL.run 2 [] [(0, .int .i64 n), (3, .int .i64 (w64 (low + (w64 ((w64 ((w64 (high - low)) + 1)).tdiv 2))))), (4, .int .i64 high)] rfl ⟨by kernel_rfl, by kernel_rfl⟩ ?_
          refine TL.done rfl ?_
          refine TE.normal_block ?_
          exact TE.again (x := (m + 1, low, high)) (m, w64 (low + (w64 ((w64 ((w64 (high - low)) + 1)).tdiv 2))), high) (by refine Eq.trans (Eq.symm ?_) hI; exact cond_t h2 (cond_t h3 (rfl))) (Nat.lt_succ_self _) (by kernel_rfl) (.slnil)
        · refine TC.region ?_
          refine TL.run 3 [] [(0, .int .i64 n), (3, .int .i64 low), (4, .int .i64 (w64 ((w64 (low + (w64 ((w64 ((w64 (high - low)) + 1)).tdiv 2)))) - 1)))] rfl ⟨by kernel_rfl, by kernel_rfl⟩ ?_
          refine TL.done rfl ?_
          refine TE.normal_block ?_
          exact TE.again (x := (m + 1, low, high)) (m, low, w64 ((w64 (low + (w64 ((w64 ((w64 (high - low)) + 1)).tdiv 2)))) - 1)) (by refine Eq.trans (Eq.symm ?_) hI; exact cond_t h2 (cond_f h3 (rfl))) (Nat.lt_succ_self _) (by kernel_rfl) (.slnil)
      · refine TC.exit ?_
        refine TE.exit_then (TE.exit_then (TE.exit_same ?_))
        exact TE.cut low (Option.some.inj (hI.symm.trans (by exact cond_f h2 (rfl)))) (by kernel_rfl) (.slnil)
    · rintro low_2 hJ
      refine TE.next ?_
      refine TC.seq ?_
      refine TC.region ?_
      refine TL.run 2 [] [(2, .int .i64 low_2)] rfl ⟨by kernel_rfl, by kernel_rfl⟩ ?_
      refine TL.next rfl ?_
      refine TC.ret ?_
      have e : num_Root n = low_2 := by unfold num_Root; exact cond_f h1 (bindv_eq ((congrArg (Option.getD · _) hR).trans hJ) (rfl))
      exact TE.ret [] (.int .i64 low_2) ⟨by kernel_rfl, by kernel_rfl⟩ (by rw [e]; first | done | kernel_rfl)

def plane_Distance (a : P) (b_ : P) : Int × Int :=
  let r1 := plane_Square a b_
  let r2 := num_Root r1
  cond (decide ((w64 (r2 * r2)) < r1)) (
    (r2, w64 (r2 + 1))) (
    (r2, r2))

set_option maxRecDepth 100000 in
theorem plane_Distance_w (a : P) (b_ : P) (w : World) : Calls Tryd.prog 18 #[P.v a, P.v b_] w (Ret w (.tuple #[.int .i64 ((plane_Distance a b_).1), .int .i64 ((plane_Distance a b_).2)])) := by
  refine calls_intro (vs := [P.v a, P.v b_]) (w := w) Tryd.func18 rfl Tryd.ntmps18 rfl ?_
  refine TC.weak [(0, P.v a), (1, P.v b_)] (by kernel_rfl) ?_
  refine TC.seq ?_
  refine TC.region ?_
  refine TL.write 0 (fun b1 => [(1, P.v b_), (2, .pointer (some ⟨b1, 0, none⟩))]) (fun b1 => [.inl (b1, .cells (P.c a) 24 (0, 0))]) (fun b1 => ⟨by kernel_rfl, by kernel_rfl⟩) (fun b1 => ?_)
  refine TL.write 0 (fun b2 => [(2, .pointer (some ⟨b1, 0, none⟩)), (3, .pointer (some ⟨b2, 0, none⟩))]) (fun b2 => [.inl (b2, .cells (P.c b_) 24 (0, 0)), .inl (b1, .cells (P.c a) 24 (0, 0))]) (fun b2 => ⟨by kernel_rfl, by kernel_rfl⟩) (fun b2 => ?_)
  refine TL.run 4 [] [(2, .pointer (some ⟨b1, 0, none⟩)), (3, .pointer (some ⟨b2, 0, none⟩))] rfl ⟨by kernel_rfl, by kernel_rfl⟩ ?_
  refine TL.next rfl ?_
  refine TC.seq ?_
  refine TC.region ?_
  refine TL.run 2 [1, 0] [(8, P.v a), (9, P.v b_)] rfl ⟨by kernel_rfl, by kernel_rfl⟩ ?_
  refine TL.call (some 10) [(10, .int .i64 (plane_Square a b_))] (fun w _ => plane_Square_w a b_ w) (by kernel_rfl) (by kernel_rfl) ?_
  generalize hr1 : plane_Square a b_ = r1
  refine TL.run 4 [] [(6, .int .i64 r1)] rfl ⟨by kernel_rfl, by kernel_rfl⟩ ?_
  refine TL.next rfl ?_
  refine TC.seq ?_
  refine TC.region ?_
  refine TL.run 1 [] [(6, .int .i64 r1), (11, .int .i64 r1)] rfl ⟨by kernel_rfl, by kernel_rfl⟩ ?_
  refine TL.call (some 12) [(6, .int .i64 r1), (12, .int .i64 (num_Root r1))] (fun w _ => num_Root_w r1 w) (by kernel_rfl) (by kernel_rfl) ?_
  generalize hr2 : num_Root r1 = r2
  refine TL.run 3 [] [(6, .int .i64 r1), (7, .int .i64 r2)] rfl ⟨by kernel_rfl, by kernel_rfl⟩ ?_
  refine TL.next rfl ?_
  refine TC.seq ?_
  refine TC.seq ?_
  refine TC.region ?_
  refine TL.run 5 [] [(7, .int .i64 r2), (17, .bool (decide ((w64 (r2 * r2)) < r1)))] rfl ⟨by kernel_rfl, by kernel_rfl⟩ ?_
  refine TL.next rfl ?_
  refine TC.cond (decide ((w64 (r2 * r2)) < r1)) rfl (by kernel_rfl) (fun h1 => ?_) (fun h1 => ?_)
  · refine TC.seq ?_
    refine TC.region ?_
    refine TL.run 5 [] [(4, .int .i64 r2), (5, .int .i64 (w64 (r2 + 1)))] rfl ⟨by kernel_rfl, by kernel_rfl⟩ ?_
    refine TL.next rfl ?_
    refine TC.ret ?_
    refine TE.ret_then ?_
    have e : plane_Distance a b_ = (r2, w64 (r2 + 1)) := by subst hr1 hr2; unfold plane_Distance; exact cond_t h1 (rfl)
    exact TE.ret [] (.tuple #[.int .i64 r2, .int .i64 (w64 (r2 + 1))]) ⟨by kernel_rfl, by kernel_rfl⟩ (by rw [e]; first | done | kernel_rfl)
  · refine TC.skip ?_
    refine TE.next ?_
    refine TC.seq ?_
    refine TC.region ?_
    refine TL.run 4 [] [(4, .int .i64 r2), (5, .int .i64 r2)] rfl ⟨by kernel_rfl, by kernel_rfl⟩ ?_
    refine TL.next rfl ?_
    refine TC.ret ?_
    have e : plane_Distance a b_ = (r2, r2) := by subst hr1 hr2; unfold plane_Distance; exact cond_f h1 (rfl)
    exact TE.ret [] (.tuple #[.int .i64 r2, .int .i64 r2]) ⟨by kernel_rfl, by kernel_rfl⟩ (by rw [e]; first | done | kernel_rfl)

def radar_Check (s : RadarSite) : Int :=
  let r1 := radar_out s.ID 0 255
  cond r1 (
    4) (
    let r2 := plane_Check s.At
    cond (r2 != 0) (
      4) (
      let r3 := radar_out s.Reach 1 1000000
      cond r3 (
        4) (
        let r4 := radar_out s.RangeError 1 10000
        cond r4 (
          4) (
          let r5 := radar_out s.AzimuthError 1 100
          cond r5 (
            4) (
            0)))))

set_option maxRecDepth 100000 in
theorem radar_Check_w (s : RadarSite) (w : World) : Calls Tryd.prog 16 #[RadarSite.v s] w (Ret w (.int .i64 (radar_Check s))) := by
  refine calls_intro (vs := [RadarSite.v s]) (w := w) Tryd.func16 rfl Tryd.ntmps16 rfl ?_
  refine TC.weak [(0, RadarSite.v s)] (by kernel_rfl) ?_
  refine TC.seq ?_
  refine TC.region ?_
  refine TL.write 0 (fun b1 => [(1, .pointer (some ⟨b1, 0, none⟩))]) (fun b1 => [.inl (b1, .cells (RadarSite.c s) 32 (0, 0))]) (fun b1 => ⟨by kernel_rfl, by kernel_rfl⟩) (fun b1 => ?_)
  refine TL.run 2 [] [(1, .pointer (some ⟨b1, 0, none⟩))] rfl ⟨by kernel_rfl, by kernel_rfl⟩ ?_
  refine TL.next rfl ?_
  refine TC.seq ?_
  refine TC.seq ?_
  refine TC.region ?_
  refine TL.run 2 [0] [(1, .pointer (some ⟨b1, 0, none⟩)), (4, .int .i64 s.ID)] rfl ⟨by kernel_rfl, by kernel_rfl⟩ ?_
  refine TL.call (some 5) [(1, .pointer (some ⟨b1, 0, none⟩)), (5, .bool ((radar_out s.ID 0 255)))] (fun w _ => radar_out_w s.ID 0 255 w) (by kernel_rfl) (by kernel_rfl) ?_
  generalize hr1 : radar_out s.ID 0 255 = r1
  refine TL.run 4 [] [(1, .pointer (some ⟨b1, 0, none⟩)), (6, .bool r1)] rfl ⟨by kernel_rfl, by kernel_rfl⟩ ?_
  refine TL.split 6 r1 (by kernel_rfl) (fun h1 => ?_) (fun h1 => ?_)
  · refine TL.run 24 [] [(26, .bool true)] rfl ⟨by kernel_rfl, by kernel_rfl⟩ ?_
    refine TL.next rfl ?_
    refine TC.condT rfl (by kernel_rfl) ?_
    refine TC.seq ?_
    refine TC.region ?_
    refine TL.run 1 [] [(2, .int .i64 4)] rfl ⟨by kernel_rfl, by kernel_rfl⟩ ?_
    refine TL.next rfl ?_
    refine TC.ret ?_
    refine TE.ret_then ?_
    have e : radar_Check s = 4 := by subst hr1; unfold radar_Check; exact cond_t h1 (rfl)
    exact TE.ret [] (.int .i64 4) ⟨by kernel_rfl, by kernel_rfl⟩ (by rw [e]; first | done | kernel_rfl)
  · refine TL.run 6 [0] [(1, .pointer (some ⟨b1, 0, none⟩)), (6, .bool false), (8, P.v s.At)] rfl ⟨by kernel_rfl, by kernel_rfl⟩ ?_
    refine TL.call (some 9) [(1, .pointer (some ⟨b1, 0, none⟩)), (6, .bool false), (9, .int .i64 (plane_Check s.At))] (fun w _ => plane_Check_w s.At w) (by kernel_rfl) (by kernel_rfl) ?_
    generalize hr2 : plane_Check s.At = r2
    refine TL.run 10 [] [(1, .pointer (some ⟨b1, 0, none⟩)), (12, .bool (r2 != 0))] rfl ⟨by kernel_rfl, by kernel_rfl⟩ ?_
    refine TL.split 12 (r2 != 0) (by kernel_rfl) (fun h2 => ?_) (fun h2 => ?_)
    · refine TL.run 24 [] [(26, .bool true)] rfl ⟨by kernel_rfl, by kernel_rfl⟩ ?_
      refine TL.next rfl ?_
      refine TC.condT rfl (by kernel_rfl) ?_
      refine TC.seq ?_
      refine TC.region ?_
      refine TL.run 1 [] [(2, .int .i64 4)] rfl ⟨by kernel_rfl, by kernel_rfl⟩ ?_
      refine TL.next rfl ?_
      refine TC.ret ?_
      refine TE.ret_then ?_
      have e : radar_Check s = 4 := by subst hr1 hr2; unfold radar_Check; exact cond_f h1 (cond_t h2 (rfl))
      exact TE.ret [] (.int .i64 4) ⟨by kernel_rfl, by kernel_rfl⟩ (by rw [e]; first | done | kernel_rfl)
    · refine TL.run 12 [0] [(1, .pointer (some ⟨b1, 0, none⟩)), (12, .bool false), (14, .int .i64 s.Reach)] rfl ⟨by kernel_rfl, by kernel_rfl⟩ ?_
      refine TL.call (some 15) [(1, .pointer (some ⟨b1, 0, none⟩)), (12, .bool false), (15, .bool ((radar_out s.Reach 1 1000000)))] (fun w _ => radar_out_w s.Reach 1 1000000 w) (by kernel_rfl) (by kernel_rfl) ?_
      generalize hr3 : radar_out s.Reach 1 1000000 = r3
      refine TL.run 15 [] [(1, .pointer (some ⟨b1, 0, none⟩)), (17, .bool r3)] rfl ⟨by kernel_rfl, by kernel_rfl⟩ ?_
      refine TL.split 17 r3 (by kernel_rfl) (fun h3 => ?_) (fun h3 => ?_)
      · refine TL.run 24 [] [(26, .bool true)] rfl ⟨by kernel_rfl, by kernel_rfl⟩ ?_
        refine TL.next rfl ?_
        refine TC.condT rfl (by kernel_rfl) ?_
        refine TC.seq ?_
        refine TC.region ?_
        refine TL.run 1 [] [(2, .int .i64 4)] rfl ⟨by kernel_rfl, by kernel_rfl⟩ ?_
        refine TL.next rfl ?_
        refine TC.ret ?_
        refine TE.ret_then ?_
        have e : radar_Check s = 4 := by subst hr1 hr2 hr3; unfold radar_Check; exact cond_f h1 (cond_f h2 (cond_t h3 (rfl)))
        exact TE.ret [] (.int .i64 4) ⟨by kernel_rfl, by kernel_rfl⟩ (by rw [e]; first | done | kernel_rfl)
      · refine TL.run 17 [0] [(1, .pointer (some ⟨b1, 0, none⟩)), (17, .bool false), (19, .int .i64 s.RangeError)] rfl ⟨by kernel_rfl, by kernel_rfl⟩ ?_
        refine TL.call (some 20) [(1, .pointer (some ⟨b1, 0, none⟩)), (17, .bool false), (20, .bool ((radar_out s.RangeError 1 10000)))] (fun w _ => radar_out_w s.RangeError 1 10000 w) (by kernel_rfl) (by kernel_rfl) ?_
        generalize hr4 : radar_out s.RangeError 1 10000 = r4
        refine TL.run 20 [] [(1, .pointer (some ⟨b1, 0, none⟩)), (22, .bool r4)] rfl ⟨by kernel_rfl, by kernel_rfl⟩ ?_
        refine TL.split 22 r4 (by kernel_rfl) (fun h4 => ?_) (fun h4 => ?_)
        · refine TL.run 24 [] [(26, .bool true)] rfl ⟨by kernel_rfl, by kernel_rfl⟩ ?_
          refine TL.next rfl ?_
          refine TC.condT rfl (by kernel_rfl) ?_
          refine TC.seq ?_
          refine TC.region ?_
          refine TL.run 1 [] [(2, .int .i64 4)] rfl ⟨by kernel_rfl, by kernel_rfl⟩ ?_
          refine TL.next rfl ?_
          refine TC.ret ?_
          refine TE.ret_then ?_
          have e : radar_Check s = 4 := by subst hr1 hr2 hr3 hr4; unfold radar_Check; exact cond_f h1 (cond_f h2 (cond_f h3 (cond_t h4 (rfl))))
          exact TE.ret [] (.int .i64 4) ⟨by kernel_rfl, by kernel_rfl⟩ (by rw [e]; first | done | kernel_rfl)
        · refine TL.run 22 [0] [(22, .bool false), (24, .int .i64 s.AzimuthError)] rfl ⟨by kernel_rfl, by kernel_rfl⟩ ?_
          refine TL.call (some 25) [(22, .bool false), (25, .bool ((radar_out s.AzimuthError 1 100)))] (fun w _ => radar_out_w s.AzimuthError 1 100 w) (by kernel_rfl) (by kernel_rfl) ?_
          generalize hr5 : radar_out s.AzimuthError 1 100 = r5
          refine TL.run 24 [] [(26, .bool r5)] rfl ⟨by kernel_rfl, by kernel_rfl⟩ ?_
          refine TL.next rfl ?_
          refine TC.cond r5 rfl (by kernel_rfl) (fun h5 => ?_) (fun h5 => ?_)
          · refine TC.seq ?_
            refine TC.region ?_
            refine TL.run 1 [] [(2, .int .i64 4)] rfl ⟨by kernel_rfl, by kernel_rfl⟩ ?_
            refine TL.next rfl ?_
            refine TC.ret ?_
            refine TE.ret_then ?_
            have e : radar_Check s = 4 := by subst hr1 hr2 hr3 hr4 hr5; unfold radar_Check; exact cond_f h1 (cond_f h2 (cond_f h3 (cond_f h4 (cond_t h5 (rfl)))))
            exact TE.ret [] (.int .i64 4) ⟨by kernel_rfl, by kernel_rfl⟩ (by rw [e]; first | done | kernel_rfl)
          · refine TC.skip ?_
            refine TE.next ?_
            refine TC.seq ?_
            refine TC.region ?_
            refine TL.run 1 [] [(2, .int .i64 0)] rfl ⟨by kernel_rfl, by kernel_rfl⟩ ?_
            refine TL.next rfl ?_
            refine TC.ret ?_
            have e : radar_Check s = 0 := by subst hr1 hr2 hr3 hr4 hr5; unfold radar_Check; exact cond_f h1 (cond_f h2 (cond_f h3 (cond_f h4 (cond_f h5 (rfl)))))
            exact TE.ret [] (.int .i64 0) ⟨by kernel_rfl, by kernel_rfl⟩ (by rw [e]; first | done | kernel_rfl)

def radar_CheckPlot (p : Plot) : Int :=
  let r1 := radar_out p.Radar 0 255
  cond r1 (
    4) (
    let r2 := radar_out p.Time 0 200000
    cond r2 (
      4) (
      let r3 := radar_out p.Range 0 2000000
      cond r3 (
        4) (
        let r4 := radar_out p.Azimuth 0 4095
        cond r4 (
          4) (
          let r5 := radar_out p.Height 0 60000
          cond r5 (
            4) (
            let r6 := radar_out p.Code (-1) 4095
            cond r6 (
              4) (
              0))))))

set_option maxHeartbeats 4000000 in
set_option maxRecDepth 100000 in
theorem radar_CheckPlot_w (p : Plot) (w : World) : Calls Tryd.prog 38 #[Plot.v p] w (Ret w (.int .i64 (radar_CheckPlot p))) := by
  refine calls_intro (vs := [Plot.v p]) (w := w) Tryd.func38 rfl Tryd.ntmps38 rfl ?_
  refine TC.weak [(0, Plot.v p)] (by kernel_rfl) ?_
  refine TC.seq ?_
  refine TC.region ?_
  refine TL.write 0 (fun b1 => [(1, .pointer (some ⟨b1, 0, none⟩))]) (fun b1 => [.inl (b1, .cells (Plot.c p) 36 (0, 0))]) (fun b1 => ⟨by kernel_rfl, by kernel_rfl⟩) (fun b1 => ?_)
  refine TL.run 2 [] [(1, .pointer (some ⟨b1, 0, none⟩))] rfl ⟨by kernel_rfl, by kernel_rfl⟩ ?_
  refine TL.next rfl ?_
  refine TC.seq ?_
  refine TC.seq ?_
  refine TC.region ?_
  refine TL.run 2 [0] [(1, .pointer (some ⟨b1, 0, none⟩)), (4, .int .i64 p.Radar)] rfl ⟨by kernel_rfl, by kernel_rfl⟩ ?_
  refine TL.call (some 5) [(1, .pointer (some ⟨b1, 0, none⟩)), (5, .bool ((radar_out p.Radar 0 255)))] (fun w _ => radar_out_w p.Radar 0 255 w) (by kernel_rfl) (by kernel_rfl) ?_
  generalize hr1 : radar_out p.Radar 0 255 = r1
  refine TL.run 4 [] [(1, .pointer (some ⟨b1, 0, none⟩)), (6, .bool r1)] rfl ⟨by kernel_rfl, by kernel_rfl⟩ ?_
  refine TL.split 6 r1 (by kernel_rfl) (fun h1 => ?_) (fun h1 => ?_)
  · refine TL.run 28 [] [(30, .bool true)] rfl ⟨by kernel_rfl, by kernel_rfl⟩ ?_
    refine TL.next rfl ?_
    refine TC.condT rfl (by kernel_rfl) ?_
    refine TC.seq ?_
    refine TC.region ?_
    refine TL.run 1 [] [(2, .int .i64 4)] rfl ⟨by kernel_rfl, by kernel_rfl⟩ ?_
    refine TL.next rfl ?_
    refine TC.ret ?_
    refine TE.ret_then ?_
    have e : radar_CheckPlot p = 4 := by subst hr1; unfold radar_CheckPlot; exact cond_t h1 (rfl)
    exact TE.ret [] (.int .i64 4) ⟨by kernel_rfl, by kernel_rfl⟩ (by rw [e]; first | done | kernel_rfl)
  · refine TL.run 6 [0] [(1, .pointer (some ⟨b1, 0, none⟩)), (6, .bool false), (8, .int .i64 p.Time)] rfl ⟨by kernel_rfl, by kernel_rfl⟩ ?_
    refine TL.call (some 9) [(1, .pointer (some ⟨b1, 0, none⟩)), (6, .bool false), (9, .bool ((radar_out p.Time 0 200000)))] (fun w _ => radar_out_w p.Time 0 200000 w) (by kernel_rfl) (by kernel_rfl) ?_
    generalize hr2 : radar_out p.Time 0 200000 = r2
    refine TL.run 9 [] [(1, .pointer (some ⟨b1, 0, none⟩)), (11, .bool r2)] rfl ⟨by kernel_rfl, by kernel_rfl⟩ ?_
    refine TL.split 11 r2 (by kernel_rfl) (fun h2 => ?_) (fun h2 => ?_)
    · refine TL.run 28 [] [(30, .bool true)] rfl ⟨by kernel_rfl, by kernel_rfl⟩ ?_
      refine TL.next rfl ?_
      refine TC.condT rfl (by kernel_rfl) ?_
      refine TC.seq ?_
      refine TC.region ?_
      refine TL.run 1 [] [(2, .int .i64 4)] rfl ⟨by kernel_rfl, by kernel_rfl⟩ ?_
      refine TL.next rfl ?_
      refine TC.ret ?_
      refine TE.ret_then ?_
      have e : radar_CheckPlot p = 4 := by subst hr1 hr2; unfold radar_CheckPlot; exact cond_f h1 (cond_t h2 (rfl))
      exact TE.ret [] (.int .i64 4) ⟨by kernel_rfl, by kernel_rfl⟩ (by rw [e]; first | done | kernel_rfl)
    · refine TL.run 11 [0] [(1, .pointer (some ⟨b1, 0, none⟩)), (11, .bool false), (13, .int .i64 p.Range)] rfl ⟨by kernel_rfl, by kernel_rfl⟩ ?_
      refine TL.call (some 14) [(1, .pointer (some ⟨b1, 0, none⟩)), (11, .bool false), (14, .bool ((radar_out p.Range 0 2000000)))] (fun w _ => radar_out_w p.Range 0 2000000 w) (by kernel_rfl) (by kernel_rfl) ?_
      generalize hr3 : radar_out p.Range 0 2000000 = r3
      refine TL.run 14 [] [(1, .pointer (some ⟨b1, 0, none⟩)), (16, .bool r3)] rfl ⟨by kernel_rfl, by kernel_rfl⟩ ?_
      refine TL.split 16 r3 (by kernel_rfl) (fun h3 => ?_) (fun h3 => ?_)
      · refine TL.run 28 [] [(30, .bool true)] rfl ⟨by kernel_rfl, by kernel_rfl⟩ ?_
        refine TL.next rfl ?_
        refine TC.condT rfl (by kernel_rfl) ?_
        refine TC.seq ?_
        refine TC.region ?_
        refine TL.run 1 [] [(2, .int .i64 4)] rfl ⟨by kernel_rfl, by kernel_rfl⟩ ?_
        refine TL.next rfl ?_
        refine TC.ret ?_
        refine TE.ret_then ?_
        have e : radar_CheckPlot p = 4 := by subst hr1 hr2 hr3; unfold radar_CheckPlot; exact cond_f h1 (cond_f h2 (cond_t h3 (rfl)))
        exact TE.ret [] (.int .i64 4) ⟨by kernel_rfl, by kernel_rfl⟩ (by rw [e]; first | done | kernel_rfl)
      · refine TL.run 16 [0] [(1, .pointer (some ⟨b1, 0, none⟩)), (16, .bool false), (18, .int .i64 p.Azimuth)] rfl ⟨by kernel_rfl, by kernel_rfl⟩ ?_
        refine TL.call (some 19) [(1, .pointer (some ⟨b1, 0, none⟩)), (16, .bool false), (19, .bool ((radar_out p.Azimuth 0 4095)))] (fun w _ => radar_out_w p.Azimuth 0 4095 w) (by kernel_rfl) (by kernel_rfl) ?_
        generalize hr4 : radar_out p.Azimuth 0 4095 = r4
        refine TL.run 19 [] [(1, .pointer (some ⟨b1, 0, none⟩)), (21, .bool r4)] rfl ⟨by kernel_rfl, by kernel_rfl⟩ ?_
        refine TL.split 21 r4 (by kernel_rfl) (fun h4 => ?_) (fun h4 => ?_)
        · refine TL.run 28 [] [(30, .bool true)] rfl ⟨by kernel_rfl, by kernel_rfl⟩ ?_
          refine TL.next rfl ?_
          refine TC.condT rfl (by kernel_rfl) ?_
          refine TC.seq ?_
          refine TC.region ?_
          refine TL.run 1 [] [(2, .int .i64 4)] rfl ⟨by kernel_rfl, by kernel_rfl⟩ ?_
          refine TL.next rfl ?_
          refine TC.ret ?_
          refine TE.ret_then ?_
          have e : radar_CheckPlot p = 4 := by subst hr1 hr2 hr3 hr4; unfold radar_CheckPlot; exact cond_f h1 (cond_f h2 (cond_f h3 (cond_t h4 (rfl))))
          exact TE.ret [] (.int .i64 4) ⟨by kernel_rfl, by kernel_rfl⟩ (by rw [e]; first | done | kernel_rfl)
        · refine TL.run 21 [0] [(1, .pointer (some ⟨b1, 0, none⟩)), (21, .bool false), (23, .int .i64 p.Height)] rfl ⟨by kernel_rfl, by kernel_rfl⟩ ?_
          refine TL.call (some 24) [(1, .pointer (some ⟨b1, 0, none⟩)), (21, .bool false), (24, .bool ((radar_out p.Height 0 60000)))] (fun w _ => radar_out_w p.Height 0 60000 w) (by kernel_rfl) (by kernel_rfl) ?_
          generalize hr5 : radar_out p.Height 0 60000 = r5
          refine TL.run 24 [] [(1, .pointer (some ⟨b1, 0, none⟩)), (26, .bool r5)] rfl ⟨by kernel_rfl, by kernel_rfl⟩ ?_
          refine TL.split 26 r5 (by kernel_rfl) (fun h5 => ?_) (fun h5 => ?_)
          · refine TL.run 28 [] [(30, .bool true)] rfl ⟨by kernel_rfl, by kernel_rfl⟩ ?_
            refine TL.next rfl ?_
            refine TC.condT rfl (by kernel_rfl) ?_
            refine TC.seq ?_
            refine TC.region ?_
            refine TL.run 1 [] [(2, .int .i64 4)] rfl ⟨by kernel_rfl, by kernel_rfl⟩ ?_
            refine TL.next rfl ?_
            refine TC.ret ?_
            refine TE.ret_then ?_
            have e : radar_CheckPlot p = 4 := by subst hr1 hr2 hr3 hr4 hr5; unfold radar_CheckPlot; exact cond_f h1 (cond_f h2 (cond_f h3 (cond_f h4 (cond_t h5 (rfl)))))
            exact TE.ret [] (.int .i64 4) ⟨by kernel_rfl, by kernel_rfl⟩ (by rw [e]; first | done | kernel_rfl)
          · refine TL.run 26 [0] [(26, .bool false), (28, .int .i64 p.Code)] rfl ⟨by kernel_rfl, by kernel_rfl⟩ ?_
            refine TL.call (some 29) [(26, .bool false), (29, .bool ((radar_out p.Code (-1) 4095)))] (fun w _ => radar_out_w p.Code (-1) 4095 w) (by kernel_rfl) (by kernel_rfl) ?_
            generalize hr6 : radar_out p.Code (-1) 4095 = r6
            refine TL.run 28 [] [(30, .bool r6)] rfl ⟨by kernel_rfl, by kernel_rfl⟩ ?_
            refine TL.next rfl ?_
            refine TC.cond r6 rfl (by kernel_rfl) (fun h6 => ?_) (fun h6 => ?_)
            · refine TC.seq ?_
              refine TC.region ?_
              refine TL.run 1 [] [(2, .int .i64 4)] rfl ⟨by kernel_rfl, by kernel_rfl⟩ ?_
              refine TL.next rfl ?_
              refine TC.ret ?_
              refine TE.ret_then ?_
              have e : radar_CheckPlot p = 4 := by subst hr1 hr2 hr3 hr4 hr5 hr6; unfold radar_CheckPlot; exact cond_f h1 (cond_f h2 (cond_f h3 (cond_f h4 (cond_f h5 (cond_t h6 (rfl))))))
              exact TE.ret [] (.int .i64 4) ⟨by kernel_rfl, by kernel_rfl⟩ (by rw [e]; first | done | kernel_rfl)
            · refine TC.skip ?_
              refine TE.next ?_
              refine TC.seq ?_
              refine TC.region ?_
              refine TL.run 1 [] [(2, .int .i64 0)] rfl ⟨by kernel_rfl, by kernel_rfl⟩ ?_
              refine TL.next rfl ?_
              refine TC.ret ?_
              have e : radar_CheckPlot p = 0 := by subst hr1 hr2 hr3 hr4 hr5 hr6; unfold radar_CheckPlot; exact cond_f h1 (cond_f h2 (cond_f h3 (cond_f h4 (cond_f h5 (cond_f h6 (rfl))))))
              exact TE.ret [] (.int .i64 0) ⟨by kernel_rfl, by kernel_rfl⟩ (by rw [e]; first | done | kernel_rfl)

def radar_Error (s : RadarSite) (far : Int) : Int × Int :=
  let r1 := radar_Check s
  cond (r1 != 0) (
    (0, r1)) (
    let r2 := radar_out far 0 2000000
    cond r2 (
      (0, 4)) (
      let r3 := num_DivUp (w64 (far * s.AzimuthError)) 651
      let r4 := num_DivUp far 23170
      (w64 ((w64 ((w64 (s.RangeError + r3.1)) + r4.1)) + 2), 0)))

set_option maxRecDepth 100000 in
theorem radar_Error_w (s : RadarSite) (far : Int) (w : World) : Calls Tryd.prog 40 #[RadarSite.v s, .int .i64 far] w (Ret w (.tuple #[.int .i64 ((radar_Error s far).1), .int .i64 ((radar_Error s far).2)])) := by
  refine calls_intro (vs := [RadarSite.v s, .int .i64 far]) (w := w) Tryd.func40 rfl Tryd.ntmps40 rfl ?_
  refine TC.weak [(0, RadarSite.v s), (1, .int .i64 far)] (by kernel_rfl) ?_
  refine TC.seq ?_
  refine TC.region ?_
  refine TL.write 0 (fun b1 => [(1, .int .i64 far), (2, .pointer (some ⟨b1, 0, none⟩))]) (fun b1 => [.inl (b1, .cells (RadarSite.c s) 32 (0, 0))]) (fun b1 => ⟨by kernel_rfl, by kernel_rfl⟩) (fun b1 => ?_)
  refine TL.run 3 [] [(1, .int .i64 far), (2, .pointer (some ⟨b1, 0, none⟩))] rfl ⟨by kernel_rfl, by kernel_rfl⟩ ?_
  refine TL.next rfl ?_
  refine TC.seq ?_
  refine TC.seq ?_
  refine TC.region ?_
  refine TL.run 1 [0] [(1, .int .i64 far), (2, .pointer (some ⟨b1, 0, none⟩)), (11, RadarSite.v s)] rfl ⟨by kernel_rfl, by kernel_rfl⟩ ?_
  refine TL.call (some 12) [(1, .int .i64 far), (2, .pointer (some ⟨b1, 0, none⟩)), (12, .int .i64 (radar_Check s))] (fun w _ => radar_Check_w s w) (by kernel_rfl) (by kernel_rfl) ?_
  generalize hr1 : radar_Check s = r1
  refine TL.run 3 [] [(1, .int .i64 far), (2, .pointer (some ⟨b1, 0, none⟩)), (6, .int .i64 r1)] rfl ⟨by kernel_rfl, by kernel_rfl⟩ ?_
  refine TL.next rfl ?_
  refine TC.seq ?_
  refine TC.region ?_
  refine TL.run 2 [] [(1, .int .i64 far), (2, .pointer (some ⟨b1, 0, none⟩)), (6, .int .i64 r1), (14, .bool (r1 != 0))] rfl ⟨by kernel_rfl, by kernel_rfl⟩ ?_
  refine TL.next rfl ?_
  refine TC.cond (r1 != 0) rfl (by kernel_rfl) (fun h1 => ?_) (fun h1 => ?_)
  · refine TC.seq ?_
    refine TC.region ?_
    refine TL.run 3 [] [(4, .int .i64 0), (5, .int .i64 r1)] rfl ⟨by kernel_rfl, by kernel_rfl⟩ ?_
    refine TL.next rfl ?_
    refine TC.ret ?_
    refine TE.ret_then ?_
    have e : radar_Error s far = (0, r1) := by subst hr1; unfold radar_Error; exact cond_t h1 (rfl)
    exact TE.ret [] (.tuple #[.int .i64 0, .int .i64 r1]) ⟨by kernel_rfl, by kernel_rfl⟩ (by rw [e]; first | done | kernel_rfl)
  · refine TC.skip ?_
    refine TE.next ?_
    refine TC.seq ?_
    refine TC.seq ?_
    refine TC.region ?_
    refine TL.run 1 [] [(1, .int .i64 far), (2, .pointer (some ⟨b1, 0, none⟩)), (16, .int .i64 far)] rfl ⟨by kernel_rfl, by kernel_rfl⟩ ?_
    refine TL.call (some 17) [(1, .int .i64 far), (2, .pointer (some ⟨b1, 0, none⟩)), (17, .bool ((radar_out far 0 2000000)))] (fun w _ => radar_out_w far 0 2000000 w) (by kernel_rfl) (by kernel_rfl) ?_
    generalize hr2 : radar_out far 0 2000000 = r2
    refine TL.next rfl ?_
    refine TC.cond r2 rfl (by kernel_rfl) (fun h2 => ?_) (fun h2 => ?_)
    · refine TC.seq ?_
      refine TC.region ?_
      refine TL.run 2 [] [(4, .int .i64 0), (5, .int .i64 4)] rfl ⟨by kernel_rfl, by kernel_rfl⟩ ?_
      refine TL.next rfl ?_
      refine TC.ret ?_
      refine TE.ret_then ?_
      have e : radar_Error s far = (0, 4) := by subst hr1 hr2; unfold radar_Error; exact cond_f h1 (cond_t h2 (rfl))
      exact TE.ret [] (.tuple #[.int .i64 0, .int .i64 4]) ⟨by kernel_rfl, by kernel_rfl⟩ (by rw [e]; first | done | kernel_rfl)
    · refine TC.skip ?_
      refine TE.next ?_
      refine TC.seq ?_
      refine TC.region ?_
      refine TL.run 4 [0] [(1, .int .i64 far), (2, .pointer (some ⟨b1, 0, none⟩)), (22, .int .i64 (w64 (far * s.AzimuthError)))] rfl ⟨by kernel_rfl, by kernel_rfl⟩ ?_
      refine TL.call (some 23) [(1, .int .i64 far), (2, .pointer (some ⟨b1, 0, none⟩)), (23, .tuple #[.int .i64 ((num_DivUp (w64 (far * s.AzimuthError)) 651).1), .int .i64 ((num_DivUp (w64 (far * s.AzimuthError)) 651).2)])] (fun w _ => num_DivUp_w (w64 (far * s.AzimuthError)) 651 w) (by kernel_rfl) (by kernel_rfl) ?_
      generalize hr3 : num_DivUp (w64 (far * s.AzimuthError)) 651 = r3
      refine TL.run 10 [] [(1, .int .i64 far), (2, .pointer (some ⟨b1, 0, none⟩)), (7, .int .i64 r3.1)] rfl ⟨by kernel_rfl, by kernel_rfl⟩ ?_
      refine TL.next rfl ?_
      refine TC.seq ?_
      refine TC.region ?_
      refine TL.run 1 [] [(2, .pointer (some ⟨b1, 0, none⟩)), (7, .int .i64 r3.1), (27, .int .i64 far)] rfl ⟨by kernel_rfl, by kernel_rfl⟩ ?_
      refine TL.call (some 28) [(2, .pointer (some ⟨b1, 0, none⟩)), (7, .int .i64 r3.1), (28, .tuple #[.int .i64 ((num_DivUp far 23170).1), .int .i64 ((num_DivUp far 23170).2)])] (fun w _ => num_DivUp_w far 23170 w) (by kernel_rfl) (by kernel_rfl) ?_
      generalize hr4 : num_DivUp far 23170 = r4
      refine TL.run 7 [] [(2, .pointer (some ⟨b1, 0, none⟩)), (7, .int .i64 r3.1), (9, .int .i64 r4.1)] rfl ⟨by kernel_rfl, by kernel_rfl⟩ ?_
      refine TL.next rfl ?_
      refine TC.seq ?_
      refine TC.region ?_
      refine TL.run 9 [0] [(4, .int .i64 (w64 ((w64 ((w64 (s.RangeError + r3.1)) + r4.1)) + 2))), (5, .int .i64 0)] rfl ⟨by kernel_rfl, by kernel_rfl⟩ ?_
      refine TL.next rfl ?_
      refine TC.ret ?_
      have e : radar_Error s far = (w64 ((w64 ((w64 (s.RangeError + r3.1)) + r4.1)) + 2), 0) := by subst hr1 hr2 hr3 hr4; unfold radar_Error; exact cond_f h1 (cond_f h2 (rfl))
      exact TE.ret [] (.tuple #[.int .i64 (w64 ((w64 ((w64 (s.RangeError + r3.1)) + r4.1)) + 2)), .int .i64 0]) ⟨by kernel_rfl, by kernel_rfl⟩ (by rw [e]; first | done | kernel_rfl)

def radar_Spot (s : RadarSite) (p : Plot) : Spot × Int :=
  let r1 := radar_Check s
  cond (r1 != 0) (
    ((⟨0, ⟨0, 0⟩, 0, 0, 0⟩ : Spot), r1)) (
    let r2 := radar_CheckPlot p
    cond (r2 != 0) (
      ((⟨0, ⟨0, 0⟩, 0, 0, 0⟩ : Spot), r2)) (
      cond (p.Radar != s.ID) (
        ((⟨0, ⟨0, 0⟩, 0, 0, 0⟩ : Spot), 1)) (
        let r3 := angle_Vector p.Azimuth p.Range
        let r4 := radar_Error s p.Range
        let r5 := plane_Add s.At r3.1
        let r6 := plane_Check r5
        cond ((r6 != 0) || (decide (r4.1 > 1000000))) (
          ((⟨0, ⟨0, 0⟩, 0, 0, 0⟩ : Spot), 8)) (
          ((⟨p.Time, r5, p.Height, p.Code, r4.1⟩ : Spot), 0)))))

set_option maxHeartbeats 4000000 in
set_option maxRecDepth 100000 in
theorem radar_Spot_w (s : RadarSite) (p : Plot) (w : World) (hT : Tabs w) : Calls Tryd.prog 25 #[RadarSite.v s, Plot.v p] w (Ret w (.tuple #[Spot.v ((radar_Spot s p).1), .int .i64 ((radar_Spot s p).2)])) := by
  refine calls_intro (vs := [RadarSite.v s, Plot.v p]) (w := w) Tryd.func25 rfl Tryd.ntmps25 rfl ?_
  refine TC.weak [(0, RadarSite.v s), (1, Plot.v p)] (by kernel_rfl) ?_
  refine TC.seq ?_
  refine TC.region ?_
  refine TL.write 0 (fun b1 => [(1, Plot.v p), (2, .pointer (some ⟨b1, 0, none⟩))]) (fun b1 => [.inl (b1, .cells (RadarSite.c s) 32 (0, 0))]) (fun b1 => ⟨by kernel_rfl, by kernel_rfl⟩) (fun b1 => ?_)
  refine TL.write 0 (fun b2 => [(2, .pointer (some ⟨b1, 0, none⟩)), (3, .pointer (some ⟨b2, 0, none⟩))]) (fun b2 => [.inl (b2, .cells (Plot.c p) 36 (0, 0)), .inl (b1, .cells (RadarSite.c s) 32 (0, 0))]) (fun b2 => ⟨by kernel_rfl, by kernel_rfl⟩) (fun b2 => ?_)
  refine TL.write 0 (fun b3 => [(2, .pointer (some ⟨b1, 0, none⟩)), (3, .pointer (some ⟨b2, 0, none⟩)), (4, .pointer (some ⟨b3, 0, none⟩))]) (fun b3 => [.inl (b3, .cells (Spot.c Spot.zero) 26 (0, 0)), .inl (b2, .cells (Plot.c p) 36 (0, 0)), .inl (b1, .cells (RadarSite.c s) 32 (0, 0))]) (fun b3 => ⟨by kernel_rfl, by kernel_rfl⟩) (fun b3 => ?_)
  refine TL.run 4 [] [(2, .pointer (some ⟨b1, 0, none⟩)), (3, .pointer (some ⟨b2, 0, none⟩)), (4, .pointer (some ⟨b3, 0, none⟩))] rfl ⟨by kernel_rfl, by kernel_rfl⟩ ?_
  refine TL.next rfl ?_
  refine TC.seq ?_
  refine TC.seq ?_
  refine TC.region ?_
  refine TL.run 1 [2] [(2, .pointer (some ⟨b1, 0, none⟩)), (3, .pointer (some ⟨b2, 0, none⟩)), (4, .pointer (some ⟨b3, 0, none⟩)), (13, RadarSite.v s)] rfl ⟨by kernel_rfl, by kernel_rfl⟩ ?_
  refine TL.call (some 14) [(2, .pointer (some ⟨b1, 0, none⟩)), (3, .pointer (some ⟨b2, 0, none⟩)), (4, .pointer (some ⟨b3, 0, none⟩)), (14, .int .i64 (radar_Check s))] (fun w _ => radar_Check_w s w) (by kernel_rfl) (by kernel_rfl) ?_
  generalize hr1 : radar_Check s = r1
  refine TL.run 3 [] [(2, .pointer (some ⟨b1, 0, none⟩)), (3, .pointer (some ⟨b2, 0, none⟩)), (4, .pointer (some ⟨b3, 0, none⟩)), (6, .int .i64 r1)] rfl ⟨by kernel_rfl, by kernel_rfl⟩ ?_
  refine TL.next rfl ?_
  refine TC.seq ?_
  refine TC.region ?_
  refine TL.run 2 [] [(2, .pointer (some ⟨b1, 0, none⟩)), (3, .pointer (some ⟨b2, 0, none⟩)), (4, .pointer (some ⟨b3, 0, none⟩)), (6, .int .i64 r1), (16, .bool (r1 != 0))] rfl ⟨by kernel_rfl, by kernel_rfl⟩ ?_
  refine TL.next rfl ?_
  refine TC.cond (r1 != 0) rfl (by kernel_rfl) (fun h1 => ?_) (fun h1 => ?_)
  · refine TC.seq ?_
    refine TC.region ?_
    refine TL.run 2 [] [(4, .pointer (some ⟨b3, 0, none⟩)), (17, Spot.v Spot.zero), (18, .int .i64 r1)] rfl ⟨by kernel_rfl, by kernel_rfl⟩ ?_
    refine TL.write 0 (fun _ => [(4, .pointer (some ⟨b3, 0, none⟩)), (18, .int .i64 r1)]) (fun _ => [.inl (b3, .cells (Spot.c Spot.zero) 26 (0, 0)), .inl (b2, .cells (Plot.c p) 36 (0, 0)), .inl (b1, .cells (RadarSite.c s) 32 (0, 0))]) (fun _ => ⟨by kernel_rfl, by kernel_rfl⟩) (fun _ => ?_)
    refine TL.run 4 [] [(4, .pointer (some ⟨b3, 0, none⟩)), (5, .int .i64 r1)] rfl ⟨by kernel_rfl, by kernel_rfl⟩ ?_
    refine TL.next rfl ?_
    refine TC.ret ?_
    refine TE.ret_then ?_
    have e : radar_Spot s p = ((⟨0, ⟨0, 0⟩, 0, 0, 0⟩ : Spot), r1) := by subst hr1; unfold radar_Spot; exact cond_t h1 (rfl)
    exact TE.ret [0] (.tuple #[.agg #[.int .i64 0, .int .i64 0, .int .i64 0, .int .i64 0, .int .i64 0, .int .i64 0], .int .i64 r1]) ⟨by kernel_rfl, by kernel_rfl⟩ (by rw [e]; first | done | kernel_rfl)
  · refine TC.skip ?_
    refine TE.next ?_
    refine TC.seq ?_
    refine TC.seq ?_
    refine TC.region ?_
    refine TL.run 1 [1] [(2, .pointer (some ⟨b1, 0, none⟩)), (3, .pointer (some ⟨b2, 0, none⟩)), (4, .pointer (some ⟨b3, 0, none⟩)), (19, Plot.v p)] rfl ⟨by kernel_rfl, by kernel_rfl⟩ ?_
    refine TL.call (some 20) [(2, .pointer (some ⟨b1, 0, none⟩)), (3, .pointer (some ⟨b2, 0, none⟩)), (4, .pointer (some ⟨b3, 0, none⟩)), (20, .int .i64 (radar_CheckPlot p))] (fun w _ => radar_CheckPlot_w p w) (by kernel_rfl) (by kernel_rfl) ?_
    generalize hr2 : radar_CheckPlot p = r2
    refine TL.run 3 [] [(2, .pointer (some ⟨b1, 0, none⟩)), (3, .pointer (some ⟨b2, 0, none⟩)), (4, .pointer (some ⟨b3, 0, none⟩)), (7, .int .i64 r2)] rfl ⟨by kernel_rfl, by kernel_rfl⟩ ?_
    refine TL.next rfl ?_
    refine TC.seq ?_
    refine TC.region ?_
    refine TL.run 2 [] [(2, .pointer (some ⟨b1, 0, none⟩)), (3, .pointer (some ⟨b2, 0, none⟩)), (4, .pointer (some ⟨b3, 0, none⟩)), (7, .int .i64 r2), (22, .bool (r2 != 0))] rfl ⟨by kernel_rfl, by kernel_rfl⟩ ?_
    refine TL.next rfl ?_
    refine TC.cond (r2 != 0) rfl (by kernel_rfl) (fun h2 => ?_) (fun h2 => ?_)
    · refine TC.seq ?_
      refine TC.region ?_
      refine TL.run 2 [] [(4, .pointer (some ⟨b3, 0, none⟩)), (23, Spot.v Spot.zero), (24, .int .i64 r2)] rfl ⟨by kernel_rfl, by kernel_rfl⟩ ?_
      refine TL.write 0 (fun _ => [(4, .pointer (some ⟨b3, 0, none⟩)), (24, .int .i64 r2)]) (fun _ => [.inl (b3, .cells (Spot.c Spot.zero) 26 (0, 0)), .inl (b2, .cells (Plot.c p) 36 (0, 0)), .inl (b1, .cells (RadarSite.c s) 32 (0, 0))]) (fun _ => ⟨by kernel_rfl, by kernel_rfl⟩) (fun _ => ?_)
      refine TL.run 4 [] [(4, .pointer (some ⟨b3, 0, none⟩)), (5, .int .i64 r2)] rfl ⟨by kernel_rfl, by kernel_rfl⟩ ?_
      refine TL.next rfl ?_
      refine TC.ret ?_
      refine TE.ret_then ?_
      have e : radar_Spot s p = ((⟨0, ⟨0, 0⟩, 0, 0, 0⟩ : Spot), r2) := by subst hr1 hr2; unfold radar_Spot; exact cond_f h1 (cond_t h2 (rfl))
      exact TE.ret [0] (.tuple #[.agg #[.int .i64 0, .int .i64 0, .int .i64 0, .int .i64 0, .int .i64 0, .int .i64 0], .int .i64 r2]) ⟨by kernel_rfl, by kernel_rfl⟩ (by rw [e]; first | done | kernel_rfl)
    · refine TC.skip ?_
      refine TE.next ?_
      refine TC.seq ?_
      refine TC.seq ?_
      refine TC.region ?_
      refine TL.run 5 [1, 2] [(2, .pointer (some ⟨b1, 0, none⟩)), (3, .pointer (some ⟨b2, 0, none⟩)), (4, .pointer (some ⟨b3, 0, none⟩)), (29, .bool (p.Radar != s.ID))] rfl ⟨by kernel_rfl, by kernel_rfl⟩ ?_
      refine TL.next rfl ?_
      refine TC.cond (p.Radar != s.ID) rfl (by kernel_rfl) (fun h3 => ?_) (fun h3 => ?_)
      · refine TC.seq ?_
        refine TC.region ?_
        refine TL.run 1 [] [(4, .pointer (some ⟨b3, 0, none⟩)), (30, Spot.v Spot.zero)] rfl ⟨by kernel_rfl, by kernel_rfl⟩ ?_
        refine TL.write 0 (fun _ => [(4, .pointer (some ⟨b3, 0, none⟩))]) (fun _ => [.inl (b3, .cells (Spot.c Spot.zero) 26 (0, 0)), .inl (b2, .cells (Plot.c p) 36 (0, 0)), .inl (b1, .cells (RadarSite.c s) 32 (0, 0))]) (fun _ => ⟨by kernel_rfl, by kernel_rfl⟩) (fun _ => ?_)
        refine TL.run 3 [] [(4, .pointer (some ⟨b3, 0, none⟩)), (5, .int .i64 1)] rfl ⟨by kernel_rfl, by kernel_rfl⟩ ?_
        refine TL.next rfl ?_
        refine TC.ret ?_
        refine TE.ret_then ?_
        have e : radar_Spot s p = ((⟨0, ⟨0, 0⟩, 0, 0, 0⟩ : Spot), 1) := by subst hr1 hr2; unfold radar_Spot; exact cond_f h1 (cond_f h2 (cond_t h3 (rfl)))
        exact TE.ret [0] (.tuple #[.agg #[.int .i64 0, .int .i64 0, .int .i64 0, .int .i64 0, .int .i64 0, .int .i64 0], .int .i64 1]) ⟨by kernel_rfl, by kernel_rfl⟩ (by rw [e]; first | done | kernel_rfl)
      · refine TC.skip ?_
        refine TE.next ?_
        refine TC.seq ?_
        refine TC.region ?_
        refine TL.run 4 [1, 1] [(2, .pointer (some ⟨b1, 0, none⟩)), (3, .pointer (some ⟨b2, 0, none⟩)), (4, .pointer (some ⟨b3, 0, none⟩)), (33, .int .i64 p.Azimuth), (35, .int .i64 p.Range)] rfl ⟨by kernel_rfl, by kernel_rfl⟩ ?_
        refine TL.call (some 36) [(2, .pointer (some ⟨b1, 0, none⟩)), (3, .pointer (some ⟨b2, 0, none⟩)), (4, .pointer (some ⟨b3, 0, none⟩)), (36, .tuple #[P.v ((angle_Vector p.Azimuth p.Range).1), .int .i64 ((angle_Vector p.Azimuth p.Range).2)])] (fun w hM => angle_Vector_w p.Azimuth p.Range w (hT.sat hM)) (by kernel_rfl) (by kernel_rfl) ?_
        generalize hr3 : angle_Vector p.Azimuth p.Range = r3
        refine TL.run 8 [] [(2, .pointer (some ⟨b1, 0, none⟩)), (3, .pointer (some ⟨b2, 0, none⟩)), (4, .pointer (some ⟨b3, 0, none⟩)), (37, P.v r3.1), (38, .int .i64 r3.2)] rfl ⟨by kernel_rfl, by kernel_rfl⟩ ?_
        refine TL.write 0 (fun b4 => [(2, .pointer (some ⟨b1, 0, none⟩)), (3, .pointer (some ⟨b2, 0, none⟩)), (4, .pointer (some ⟨b3, 0, none⟩)), (8, .pointer (some ⟨b4, 0, none⟩)), (37, P.v r3.1), (38, .int .i64 r3.2)]) (fun b4 => [.inl (b4, .cells (P.c P.zero) 24 (0, 0)), .inl (b3, .cells (Spot.c Spot.zero) 26 (0, 0)), .inl (b2, .cells (Plot.c p) 36 (0, 0)), .inl (b1, .cells (RadarSite.c s) 32 (0, 0))]) (fun b4 => ⟨by kernel_rfl, by kernel_rfl⟩) (fun b4 => ?_)
        refine TL.write 0 (fun _ => [(2, .pointer (some ⟨b1, 0, none⟩)), (3, .pointer (some ⟨b2, 0, none⟩)), (4, .pointer (some ⟨b3, 0, none⟩)), (8, .pointer (some ⟨b4, 0, none⟩)), (38, .int .i64 r3.2)]) (fun _ => [.inl (b4, .cells (P.c r3.1) 24 (0, 0)), .inl (b3, .cells (Spot.c Spot.zero) 26 (0, 0)), .inl (b2, .cells (Plot.c p) 36 (0, 0)), .inl (b1, .cells (RadarSite.c s) 32 (0, 0))]) (fun _ => ⟨by kernel_rfl, by kernel_rfl⟩) (fun _ => ?_)
        refine TL.run 11 [] [(2, .pointer (some ⟨b1, 0, none⟩)), (3, .pointer (some ⟨b2, 0, none⟩)), (4, .pointer (some ⟨b3, 0, none⟩)), (8, .pointer (some ⟨b4, 0, none⟩))] rfl ⟨by kernel_rfl, by kernel_rfl⟩ ?_
        refine TL.next rfl ?_
        refine TC.seq ?_
        refine TC.region ?_
        refine TL.run 3 [3, 2] [(2, .pointer (some ⟨b1, 0, none⟩)), (3, .pointer (some ⟨b2, 0, none⟩)), (4, .pointer (some ⟨b3, 0, none⟩)), (8, .pointer (some ⟨b4, 0, none⟩)), (40, RadarSite.v s), (42, .int .i64 p.Range)] rfl ⟨by kernel_rfl, by kernel_rfl⟩ ?_
        refine TL.call (some 43) [(2, .pointer (some ⟨b1, 0, none⟩)), (3, .pointer (some ⟨b2, 0, none⟩)), (4, .pointer (some ⟨b3, 0, none⟩)), (8, .pointer (some ⟨b4, 0, none⟩)), (43, .tuple #[.int .i64 ((radar_Error s p.Range).1), .int .i64 ((radar_Error s p.Range).2)])] (fun w _ => radar_Error_w s p.Range w) (by kernel_rfl) (by kernel_rfl) ?_
        generalize hr4 : radar_Error s p.Range = r4
        refine TL.run 9 [] [(2, .pointer (some ⟨b1, 0, none⟩)), (3, .pointer (some ⟨b2, 0, none⟩)), (4, .pointer (some ⟨b3, 0, none⟩)), (8, .pointer (some ⟨b4, 0, none⟩)), (10, .int .i64 r4.1)] rfl ⟨by kernel_rfl, by kernel_rfl⟩ ?_
        refine TL.next rfl ?_
        refine TC.seq ?_
        obtain ⟨r5, hr5⟩ : ∃ r, plane_Add s.At r3.1 = r := ⟨_, rfl⟩
        refine TC.plan (G := Nat) (base := [(2, .pointer (some ⟨b1, 0, none⟩)), (3, .pointer (some ⟨b2, 0, none⟩)), (4, .pointer (some ⟨b3, 0, none⟩)), (8, .pointer (some ⟨b4, 0, none⟩)), (10, .int .i64 r4.1)]) (vals := fun γ => [.pointer (some ⟨b2, 1, none⟩), .int .i64 p.Time, .pointer (some ⟨b1, 1, none⟩), P.v s.At, P.v r3.1, P.v r5, .pointer (some ⟨b2, 4, none⟩), .int .i64 p.Height, .pointer (some ⟨b2, 5, none⟩), .int .i64 p.Code, .int .i64 r4.1, .agg #[.int .i64 p.Time, .int .i64 r5.X, .int .i64 r5.Y, .int .i64 p.Height, .int .i64 p.Code, .int .i64 r4.1], .pointer (some ⟨γ, 0, none⟩), undef]) (writes := [12, 13]) (mem := fun bs γ => match bs with | [x12_, x13_] => (bif x13_ then [.inl (γ, .cells #[.int .i64 p.Time, .int .i64 r5.X, .int .i64 r5.Y, .int .i64 p.Height, .int .i64 p.Code, .int .i64 r4.1] 26 (0, 0))] else bif x12_ then [.inl (γ, .cells (Spot.c Spot.zero) 26 (0, 0))] else []) ++ ([.inl (b4, .cells (P.c r3.1) 24 (0, 0)), .inl (b3, .cells (Spot.c Spot.zero) 26 (0, 0)), .inl (b2, .cells (Plot.c p) 36 (0, 0)), .inl (b1, .cells (RadarSite.c s) 32 (0, 0))]) | _ => []) (0) (fun γ => [(4, .pointer (some ⟨b3, 0, none⟩)), (10, .int .i64 r4.1), (12, .pointer (some ⟨γ, 0, none⟩))]) (by kernel_rfl) (by kernel_rfl) (by kernel_rfl) (by kernel_rfl) (by kernel_rfl) (fun γ => by kernel_rfl) (fun _ hM => hM) (fun γ => by kernel_rfl) ?_ ?_
        · skip
          refine Steps.run (i := 0) 5 [0, 2, 0, 3, 0] [.inl (b4, .cells (P.c r3.1) 24 (0, 0)), .inl (b3, .cells (Spot.c Spot.zero) 26 (0, 0)), .inl (b2, .cells (Plot.c p) 36 (0, 0)), .inl (b1, .cells (RadarSite.c s) 32 (0, 0))] (by kernel_rfl) (by kernel_rfl) (fun S (γ : Nat) w hM => by change Sat _ ((bif S 13 then [.inl (γ, .cells #[.int .i64 p.Time, .int .i64 r5.X, .int .i64 r5.Y, .int .i64 p.Height, .int .i64 p.Code, .int .i64 r4.1] 26 (0, 0))] else bif S 12 then [.inl (γ, .cells (Spot.c Spot.zero) 26 (0, 0))] else []) ++ ([.inl (b4, .cells (P.c r3.1) 24 (0, 0)), .inl (b3, .cells (Spot.c Spot.zero) 26 (0, 0)), .inl (b2, .cells (Plot.c p) 36 (0, 0)), .inl (b1, .cells (RadarSite.c s) 32 (0, 0))])) w at hM; exact hM.sub (sub_skip (List.Sublist.refl _))) (by kernel_rfl) (fun (γ : Nat) => ⟨by kernel_rfl, by kernel_rfl⟩) ?_
          refine Steps.call (i := 5) 41 (fun (γ : Nat) => #[P.v s.At, P.v r3.1]) (some 51) (fun (γ : Nat) => P.v r5) (fun (γ : Nat) => [.inl (b4, .cells (P.c r3.1) 24 (0, 0)), .inl (b3, .cells (Spot.c Spot.zero) 26 (0, 0)), .inl (b2, .cells (Plot.c p) 36 (0, 0)), .inl (b1, .cells (RadarSite.c s) 32 (0, 0))]) (by kernel_rfl) (fun S (γ : Nat) w _ hM => by change Sat _ ((bif S 13 then [.inl (γ, .cells #[.int .i64 p.Time, .int .i64 r5.X, .int .i64 r5.Y, .int .i64 p.Height, .int .i64 p.Code, .int .i64 r4.1] 26 (0, 0))] else bif S 12 then [.inl (γ, .cells (Spot.c Spot.zero) 26 (0, 0))] else []) ++ ([.inl (b4, .cells (P.c r3.1) 24 (0, 0)), .inl (b3, .cells (Spot.c Spot.zero) 26 (0, 0)), .inl (b2, .cells (Plot.c p) 36 (0, 0)), .inl (b1, .cells (RadarSite.c s) 32 (0, 0))])) w at hM; exact hM.sub (sub_skip (List.Sublist.refl _))) (fun (γ : Nat) w _ => by have h := plane_Add_w s.At r3.1 w; rw [hr5] at h; exact h) (fun (γ : Nat) => by kernel_rfl) (fun (γ : Nat) => by kernel_rfl) ?_
          refine Steps.run (i := 6) 12 [0, 2, 0, 2, 0, 0] [.inl (b4, .cells (P.c r3.1) 24 (0, 0)), .inl (b3, .cells (Spot.c Spot.zero) 26 (0, 0)), .inl (b2, .cells (Plot.c p) 36 (0, 0)), .inl (b1, .cells (RadarSite.c s) 32 (0, 0))] (by kernel_rfl) (by kernel_rfl) (fun S (γ : Nat) w hM => by change Sat _ ((bif S 13 then [.inl (γ, .cells #[.int .i64 p.Time, .int .i64 r5.X, .int .i64 r5.Y, .int .i64 p.Height, .int .i64 p.Code, .int .i64 r4.1] 26 (0, 0))] else bif S 12 then [.inl (γ, .cells (Spot.c Spot.zero) 26 (0, 0))] else []) ++ ([.inl (b4, .cells (P.c r3.1) 24 (0, 0)), .inl (b3, .cells (Spot.c Spot.zero) 26 (0, 0)), .inl (b2, .cells (Plot.c p) 36 (0, 0)), .inl (b1, .cells (RadarSite.c s) 32 (0, 0))])) w at hM; exact hM.sub (sub_skip (List.Sublist.refl _))) (by kernel_rfl) (fun (γ : Nat) => ⟨by kernel_rfl, by kernel_rfl⟩) ?_
          refine Steps.op (i := 12) (Γ := Nat) (fun g (γ : Nat) => g) (fun _ => []) (fun b (γ : Nat) => [.inl (b, .cells (Spot.c Spot.zero) 26 (0, 0))]) (fun S (γ : Nat) => [.inl (b4, .cells (P.c r3.1) 24 (0, 0)), .inl (b3, .cells (Spot.c Spot.zero) 26 (0, 0)), .inl (b2, .cells (Plot.c p) 36 (0, 0)), .inl (b1, .cells (RadarSite.c s) 32 (0, 0))]) [12, 13] (fun (γ : Nat) => sV (Instr.alloc 26 true (.tuple #[]))) (some 12) (fun b (γ : Nat) => .pointer (some ⟨b, 0, none⟩)) (fun S (γ : Nat) hj hd hl => by rw [mS2 hj (hl 13 (by kernel_rfl))]; exact List.Perm.refl _) (fun S (γ : Nat) g hl => by change List.Perm ([.inl (g, .cells (Spot.c Spot.zero) 26 (0, 0))] ++ ([.inl (b4, .cells (P.c r3.1) 24 (0, 0)), .inl (b3, .cells (Spot.c Spot.zero) 26 (0, 0)), .inl (b2, .cells (Plot.c p) 36 (0, 0)), .inl (b1, .cells (RadarSite.c s) 32 (0, 0))])) (((bif S 13 then [.inl (g, .cells #[.int .i64 p.Time, .int .i64 r5.X, .int .i64 r5.Y, .int .i64 p.Height, .int .i64 p.Code, .int .i64 r4.1] 26 (0, 0))] else bif true then [.inl (g, .cells (Spot.c Spot.zero) 26 (0, 0))] else []) ++ ([.inl (b4, .cells (P.c r3.1) 24 (0, 0)), .inl (b3, .cells (Spot.c Spot.zero) 26 (0, 0)), .inl (b2, .cells (Plot.c p) 36 (0, 0)), .inl (b1, .cells (RadarSite.c s) 32 (0, 0))])) : Mem); rw [hl 13 (by kernel_rfl)]; exact (List.Perm.refl _).symm) (fun (γ : Nat) M' w hM => run_new (v := fun b => .pointer (some ⟨b, 0, none⟩)) (fun b M => by kernel_rfl) M' w hM) (fun (γ : Nat) => by kernel_rfl) (fun (γ : Nat) g => by kernel_rfl) (by kernel_rfl) (fun (γ : Nat) g => by kernel_rfl) ?_
          refine Steps.put (i := 13) (fun (γ : Nat) => [.inl (γ, .cells (Spot.c Spot.zero) 26 (0, 0))]) (fun (γ : Nat) => [.inl (γ, .cells #[.int .i64 p.Time, .int .i64 r5.X, .int .i64 r5.Y, .int .i64 p.Height, .int .i64 p.Code, .int .i64 r4.1] 26 (0, 0))]) (fun S (γ : Nat) => [.inl (b4, .cells (P.c r3.1) 24 (0, 0)), .inl (b3, .cells (Spot.c Spot.zero) 26 (0, 0)), .inl (b2, .cells (Plot.c p) 36 (0, 0)), .inl (b1, .cells (RadarSite.c s) 32 (0, 0))]) (fun (γ : Nat) => sU (Instr.storeAt 26 (.pointer (some ⟨γ, 0, none⟩)) (.agg #[.int .i64 p.Time, .int .i64 r5.X, .int .i64 r5.Y, .int .i64 p.Height, .int .i64 p.Code, .int .i64 r4.1]))) none (fun S (γ : Nat) hj hd hl => by rw [mS2 (hd 12 (by kernel_rfl)) hj]; exact List.Perm.refl _) (fun S (γ : Nat) _ => (List.Perm.refl _).symm) (fun (γ : Nat) M' w hM => run_put (fun b M => by kernel_rfl) (fun b M => by kernel_rfl) M' w hM) (fun (γ : Nat) => by kernel_rfl) (fun (γ : Nat) => by kernel_rfl) ?_
          exact Steps.done (by kernel_rfl)
        · rintro b5
          refine TE.conv [.inl (b5, .cells #[.int .i64 p.Time, .int .i64 r5.X, .int .i64 r5.Y, .int .i64 p.Height, .int .i64 p.Code, .int .i64 r4.1] 26 (0, 0)), .inl (b4, .cells (P.c r3.1) 24 (0, 0)), .inl (b3, .cells (Spot.c Spot.zero) 26 (0, 0)), .inl (b2, .cells (Plot.c p) 36 (0, 0)), .inl (b1, .cells (RadarSite.c s) 32 (0, 0))] (fun _ hM => hM) ?_
          refine TE.next ?_
          refine TC.seq ?_
          refine TC.seq ?_
          refine TC.region ?_
          refine TL.run 2 [0] [(4, .pointer (some ⟨b3, 0, none⟩)), (10, .int .i64 r4.1), (12, .pointer (some ⟨b5, 0, none⟩)), (59, P.v r5)] rfl ⟨by kernel_rfl, by kernel_rfl⟩ ?_
          refine TL.call (some 60) [(4, .pointer (some ⟨b3, 0, none⟩)), (10, .int .i64 r4.1), (12, .pointer (some ⟨b5, 0, none⟩)), (60, .int .i64 (plane_Check r5))] (fun w _ => plane_Check_w r5 w) (by kernel_rfl) (by kernel_rfl) ?_
          generalize hr6 : plane_Check r5 = r6
          refine TL.run 5 [] [(4, .pointer (some ⟨b3, 0, none⟩)), (10, .int .i64 r4.1), (12, .pointer (some ⟨b5, 0, none⟩)), (62, .bool (r6 != 0))] rfl ⟨by kernel_rfl, by kernel_rfl⟩ ?_
          refine TL.join 62 (r6 != 0) 8 [] [] (fun β => [(4, .pointer (some ⟨b3, 0, none⟩)), (12, .pointer (some ⟨b5, 0, none⟩)), (65, .bool (β || (decide (r4.1 > 1000000))))]) (by kernel_rfl) rfl ⟨by kernel_rfl, by kernel_rfl⟩ ⟨by kernel_rfl, by kernel_rfl⟩ ?_
          refine TL.next rfl ?_
          refine TC.cond ((r6 != 0) || (decide (r4.1 > 1000000))) rfl (by kernel_rfl) (fun h4 => ?_) (fun h4 => ?_)
          · refine TC.seq ?_
            refine TC.region ?_
            refine TL.run 1 [] [(4, .pointer (some ⟨b3, 0, none⟩)), (66, Spot.v Spot.zero)] rfl ⟨by kernel_rfl, by kernel_rfl⟩ ?_
            refine TL.write 2 (fun _ => [(4, .pointer (some ⟨b3, 0, none⟩))]) (fun _ => [.inl (b5, .cells #[.int .i64 p.Time, .int .i64 r5.X, .int .i64 r5.Y, .int .i64 p.Height, .int .i64 p.Code, .int .i64 r4.1] 26 (0, 0)), .inl (b4, .cells (P.c r3.1) 24 (0, 0)), .inl (b3, .cells (Spot.c Spot.zero) 26 (0, 0)), .inl (b2, .cells (Plot.c p) 36 (0, 0)), .inl (b1, .cells (RadarSite.c s) 32 (0, 0))]) (fun _ => ⟨by kernel_rfl, by kernel_rfl⟩) (fun _ => ?_)
            refine TL.run 3 [] [(4, .pointer (some ⟨b3, 0, none⟩)), (5, .int .i64 8)] rfl ⟨by kernel_rfl, by kernel_rfl⟩ ?_
            refine TL.next rfl ?_
            refine TC.ret ?_
            refine TE.ret_then ?_
            have e : radar_Spot s p = ((⟨0, ⟨0, 0⟩, 0, 0, 0⟩ : Spot), 8) := by subst hr1 hr2 hr3 hr4 hr5 hr6; unfold radar_Spot; exact cond_f h1 (cond_f h2 (cond_f h3 (cond_t h4 (rfl))))
            exact TE.ret [2] (.tuple #[.agg #[.int .i64 0, .int .i64 0, .int .i64 0, .int .i64 0, .int .i64 0, .int .i64 0], .int .i64 8]) ⟨by kernel_rfl, by kernel_rfl⟩ (by rw [e]; first | done | kernel_rfl)
          · refine TC.skip ?_
            refine TE.next ?_
            refine TC.seq ?_
            refine TC.region ?_
            refine TL.run 1 [0] [(4, .pointer (some ⟨b3, 0, none⟩)), (67, .agg #[.int .i64 p.Time, .int .i64 r5.X, .int .i64 r5.Y, .int .i64 p.Height, .int .i64 p.Code, .int .i64 r4.1])] rfl ⟨by kernel_rfl, by kernel_rfl⟩ ?_
            refine TL.write 2 (fun _ => [(4, .pointer (some ⟨b3, 0, none⟩))]) (fun _ => [.inl (b5, .cells #[.int .i64 p.Time, .int .i64 r5.X, .int .i64 r5.Y, .int .i64 p.Height, .int .i64 p.Code, .int .i64 r4.1] 26 (0, 0)), .inl (b4, .cells (P.c r3.1) 24 (0, 0)), .inl (b3, .cells #[.int .i64 p.Time, .int .i64 r5.X, .int .i64 r5.Y, .int .i64 p.Height, .int .i64 p.Code, .int .i64 r4.1] 26 (0, 0)), .inl (b2, .cells (Plot.c p) 36 (0, 0)), .inl (b1, .cells (RadarSite.c s) 32 (0, 0))]) (fun _ => ⟨by kernel_rfl, by kernel_rfl⟩) (fun _ => ?_)
            refine TL.run 3 [] [(4, .pointer (some ⟨b3, 0, none⟩)), (5, .int .i64 0)] rfl ⟨by kernel_rfl, by kernel_rfl⟩ ?_
            refine TL.next rfl ?_
            refine TC.ret ?_
            have e : radar_Spot s p = ((⟨p.Time, r5, p.Height, p.Code, r4.1⟩ : Spot), 0) := by subst hr1 hr2 hr3 hr4 hr5 hr6; unfold radar_Spot; exact cond_f h1 (cond_f h2 (cond_f h3 (cond_f h4 (rfl))))
            exact TE.ret [2] (.tuple #[.agg #[.int .i64 p.Time, .int .i64 r5.X, .int .i64 r5.Y, .int .i64 p.Height, .int .i64 p.Code, .int .i64 r4.1], .int .i64 0]) ⟨by kernel_rfl, by kernel_rfl⟩ (by rw [e]; first | done | kernel_rfl)

def radar_Plot (s : RadarSite) (t : Spot) : Plot × Int :=
  let r1 := radar_Check s
  cond (r1 != 0) (
    ((⟨0, 0, 0, 0, 0, 0⟩ : Plot), r1)) (
    let r2 := radar_CheckSpot t
    cond (r2 != 0) (
      ((⟨0, 0, 0, 0, 0, 0⟩ : Plot), r2)) (
      let r3 := plane_Within s.At t.At s.Reach
      cond (!r3) (
        ((⟨0, 0, 0, 0, 0, 0⟩ : Plot), 8)) (
        let r4 := plane_Distance s.At t.At
        cond (!(P.eqb s.At t.At)) (
          let r5 := plane_Sub t.At s.At
          let r6 := (ofF r5).1
          ((⟨s.ID, t.Time, r4.1, r6, t.Height, t.Code⟩ : Plot), 0)) (
          ((⟨s.ID, t.Time, r4.1, 0, t.Height, t.Code⟩ : Plot), 0)))))

set_option maxHeartbeats 4000000 in
set_option maxRecDepth 100000 in
theorem radar_Plot_w (s : RadarSite) (t : Spot) (w : World) (hT : Tabs w) : Calls Tryd.prog 6 #[RadarSite.v s, Spot.v t] w (Ret w (.tuple #[Plot.v ((radar_Plot s t).1), .int .i64 ((radar_Plot s t).2)])) := by
  refine calls_intro (vs := [RadarSite.v s, Spot.v t]) (w := w) Tryd.func6 rfl Tryd.ntmps6 rfl ?_
  refine TC.weak [(0, RadarSite.v s), (1, Spot.v t)] (by kernel_rfl) ?_
  refine TC.seq ?_
  refine TC.region ?_
  refine TL.write 0 (fun b1 => [(1, Spot.v t), (2, .pointer (some ⟨b1, 0, none⟩))]) (fun b1 => [.inl (b1, .cells (RadarSite.c s) 32 (0, 0))]) (fun b1 => ⟨by kernel_rfl, by kernel_rfl⟩) (fun b1 => ?_)
  refine TL.write 0 (fun b2 => [(2, .pointer (some ⟨b1, 0, none⟩)), (3, .pointer (some ⟨b2, 0, none⟩))]) (fun b2 => [.inl (b2, .cells (Spot.c t) 26 (0, 0)), .inl (b1, .cells (RadarSite.c s) 32 (0, 0))]) (fun b2 => ⟨by kernel_rfl, by kernel_rfl⟩) (fun b2 => ?_)
  refine TL.write 0 (fun b3 => [(2, .pointer (some ⟨b1, 0, none⟩)), (3, .pointer (some ⟨b2, 0, none⟩)), (4, .pointer (some ⟨b3, 0, none⟩))]) (fun b3 => [.inl (b3, .cells (Plot.c Plot.zero) 36 (0, 0)), .inl (b2, .cells (Spot.c t) 26 (0, 0)), .inl (b1, .cells (RadarSite.c s) 32 (0, 0))]) (fun b3 => ⟨by kernel_rfl, by kernel_rfl⟩) (fun b3 => ?_)
  refine TL.run 4 [] [(2, .pointer (some ⟨b1, 0, none⟩)), (3, .pointer (some ⟨b2, 0, none⟩)), (4, .pointer (some ⟨b3, 0, none⟩))] rfl ⟨by kernel_rfl, by kernel_rfl⟩ ?_
  refine TL.next rfl ?_
  refine TC.seq ?_
  refine TC.seq ?_
  refine TC.region ?_
  refine TL.run 1 [2] [(2, .pointer (some ⟨b1, 0, none⟩)), (3, .pointer (some ⟨b2, 0, none⟩)), (4, .pointer (some ⟨b3, 0, none⟩)), (11, RadarSite.v s)] rfl ⟨by kernel_rfl, by kernel_rfl⟩ ?_
  refine TL.call (some 12) [(2, .pointer (some ⟨b1, 0, none⟩)), (3, .pointer (some ⟨b2, 0, none⟩)), (4, .pointer (some ⟨b3, 0, none⟩)), (12, .int .i64 (radar_Check s))] (fun w _ => radar_Check_w s w) (by kernel_rfl) (by kernel_rfl) ?_
  generalize hr1 : radar_Check s = r1
  refine TL.run 3 [] [(2, .pointer (some ⟨b1, 0, none⟩)), (3, .pointer (some ⟨b2, 0, none⟩)), (4, .pointer (some ⟨b3, 0, none⟩)), (6, .int .i64 r1)] rfl ⟨by kernel_rfl, by kernel_rfl⟩ ?_
  refine TL.next rfl ?_
  refine TC.seq ?_
  refine TC.region ?_
  refine TL.run 2 [] [(2, .pointer (some ⟨b1, 0, none⟩)), (3, .pointer (some ⟨b2, 0, none⟩)), (4, .pointer (some ⟨b3, 0, none⟩)), (6, .int .i64 r1), (14, .bool (r1 != 0))] rfl ⟨by kernel_rfl, by kernel_rfl⟩ ?_
  refine TL.next rfl ?_
  refine TC.cond (r1 != 0) rfl (by kernel_rfl) (fun h1 => ?_) (fun h1 => ?_)
  · refine TC.seq ?_
    refine TC.region ?_
    refine TL.run 2 [] [(4, .pointer (some ⟨b3, 0, none⟩)), (15, Plot.v Plot.zero), (16, .int .i64 r1)] rfl ⟨by kernel_rfl, by kernel_rfl⟩ ?_
    refine TL.write 0 (fun _ => [(4, .pointer (some ⟨b3, 0, none⟩)), (16, .int .i64 r1)]) (fun _ => [.inl (b3, .cells (Plot.c Plot.zero) 36 (0, 0)), .inl (b2, .cells (Spot.c t) 26 (0, 0)), .inl (b1, .cells (RadarSite.c s) 32 (0, 0))]) (fun _ => ⟨by kernel_rfl, by kernel_rfl⟩) (fun _ => ?_)
    refine TL.run 4 [] [(4, .pointer (some ⟨b3, 0, none⟩)), (5, .int .i64 r1)] rfl ⟨by kernel_rfl, by kernel_rfl⟩ ?_
    refine TL.next rfl ?_
    refine TC.ret ?_
    refine TE.ret_then ?_
    have e : radar_Plot s t = ((⟨0, 0, 0, 0, 0, 0⟩ : Plot), r1) := by subst hr1; unfold radar_Plot; exact cond_t h1 (rfl)
    exact TE.ret [0] (.tuple #[.agg #[.int .i64 0, .int .i64 0, .int .i64 0, .int .i64 0, .int .i64 0, .int .i64 0], .int .i64 r1]) ⟨by kernel_rfl, by kernel_rfl⟩ (by rw [e]; first | done | kernel_rfl)
  · refine TC.skip ?_
    refine TE.next ?_
    refine TC.seq ?_
    refine TC.seq ?_
    refine TC.region ?_
    refine TL.run 1 [1] [(2, .pointer (some ⟨b1, 0, none⟩)), (3, .pointer (some ⟨b2, 0, none⟩)), (4, .pointer (some ⟨b3, 0, none⟩)), (17, Spot.v t)] rfl ⟨by kernel_rfl, by kernel_rfl⟩ ?_
    refine TL.call (some 18) [(2, .pointer (some ⟨b1, 0, none⟩)), (3, .pointer (some ⟨b2, 0, none⟩)), (4, .pointer (some ⟨b3, 0, none⟩)), (18, .int .i64 (radar_CheckSpot t))] (fun w _ => radar_CheckSpot_w t w) (by kernel_rfl) (by kernel_rfl) ?_
    generalize hr2 : radar_CheckSpot t = r2
    refine TL.run 3 [] [(2, .pointer (some ⟨b1, 0, none⟩)), (3, .pointer (some ⟨b2, 0, none⟩)), (4, .pointer (some ⟨b3, 0, none⟩)), (7, .int .i64 r2)] rfl ⟨by kernel_rfl, by kernel_rfl⟩ ?_
    refine TL.next rfl ?_
    refine TC.seq ?_
    refine TC.region ?_
    refine TL.run 2 [] [(2, .pointer (some ⟨b1, 0, none⟩)), (3, .pointer (some ⟨b2, 0, none⟩)), (4, .pointer (some ⟨b3, 0, none⟩)), (7, .int .i64 r2), (20, .bool (r2 != 0))] rfl ⟨by kernel_rfl, by kernel_rfl⟩ ?_
    refine TL.next rfl ?_
    refine TC.cond (r2 != 0) rfl (by kernel_rfl) (fun h2 => ?_) (fun h2 => ?_)
    · refine TC.seq ?_
      refine TC.region ?_
      refine TL.run 2 [] [(4, .pointer (some ⟨b3, 0, none⟩)), (21, Plot.v Plot.zero), (22, .int .i64 r2)] rfl ⟨by kernel_rfl, by kernel_rfl⟩ ?_
      refine TL.write 0 (fun _ => [(4, .pointer (some ⟨b3, 0, none⟩)), (22, .int .i64 r2)]) (fun _ => [.inl (b3, .cells (Plot.c Plot.zero) 36 (0, 0)), .inl (b2, .cells (Spot.c t) 26 (0, 0)), .inl (b1, .cells (RadarSite.c s) 32 (0, 0))]) (fun _ => ⟨by kernel_rfl, by kernel_rfl⟩) (fun _ => ?_)
      refine TL.run 4 [] [(4, .pointer (some ⟨b3, 0, none⟩)), (5, .int .i64 r2)] rfl ⟨by kernel_rfl, by kernel_rfl⟩ ?_
      refine TL.next rfl ?_
      refine TC.ret ?_
      refine TE.ret_then ?_
      have e : radar_Plot s t = ((⟨0, 0, 0, 0, 0, 0⟩ : Plot), r2) := by subst hr1 hr2; unfold radar_Plot; exact cond_f h1 (cond_t h2 (rfl))
      exact TE.ret [0] (.tuple #[.agg #[.int .i64 0, .int .i64 0, .int .i64 0, .int .i64 0, .int .i64 0, .int .i64 0], .int .i64 r2]) ⟨by kernel_rfl, by kernel_rfl⟩ (by rw [e]; first | done | kernel_rfl)
    · refine TC.skip ?_
      refine TE.next ?_
      refine TC.seq ?_
      refine TC.seq ?_
      refine TC.region ?_
      refine TL.run 6 [2, 1, 2] [(2, .pointer (some ⟨b1, 0, none⟩)), (3, .pointer (some ⟨b2, 0, none⟩)), (4, .pointer (some ⟨b3, 0, none⟩)), (24, P.v s.At), (26, P.v t.At), (28, .int .i64 s.Reach)] rfl ⟨by kernel_rfl, by kernel_rfl⟩ ?_
      refine TL.call (some 29) [(2, .pointer (some ⟨b1, 0, none⟩)), (3, .pointer (some ⟨b2, 0, none⟩)), (4, .pointer (some ⟨b3, 0, none⟩)), (29, .bool ((plane_Within s.At t.At s.Reach)))] (fun w _ => plane_Within_w s.At t.At s.Reach w) (by kernel_rfl) (by kernel_rfl) ?_
      generalize hr3 : plane_Within s.At t.At s.Reach = r3
      refine TL.run 8 [] [(2, .pointer (some ⟨b1, 0, none⟩)), (3, .pointer (some ⟨b2, 0, none⟩)), (4, .pointer (some ⟨b3, 0, none⟩)), (30, .bool (!r3))] rfl ⟨by kernel_rfl, by kernel_rfl⟩ ?_
      refine TL.next rfl ?_
      refine TC.cond (!r3) rfl (by kernel_rfl) (fun h3 => ?_) (fun h3 => ?_)
      · refine TC.seq ?_
        refine TC.region ?_
        refine TL.run 1 [] [(4, .pointer (some ⟨b3, 0, none⟩)), (31, Plot.v Plot.zero)] rfl ⟨by kernel_rfl, by kernel_rfl⟩ ?_
        refine TL.write 0 (fun _ => [(4, .pointer (some ⟨b3, 0, none⟩))]) (fun _ => [.inl (b3, .cells (Plot.c Plot.zero) 36 (0, 0)), .inl (b2, .cells (Spot.c t) 26 (0, 0)), .inl (b1, .cells (RadarSite.c s) 32 (0, 0))]) (fun _ => ⟨by kernel_rfl, by kernel_rfl⟩) (fun _ => ?_)
        refine TL.run 3 [] [(4, .pointer (some ⟨b3, 0, none⟩)), (5, .int .i64 8)] rfl ⟨by kernel_rfl, by kernel_rfl⟩ ?_
        refine TL.next rfl ?_
        refine TC.ret ?_
        refine TE.ret_then ?_
        have e : radar_Plot s t = ((⟨0, 0, 0, 0, 0, 0⟩ : Plot), 8) := by subst hr1 hr2 hr3; unfold radar_Plot; exact cond_f h1 (cond_f h2 (cond_t h3 (rfl)))
        exact TE.ret [0] (.tuple #[.agg #[.int .i64 0, .int .i64 0, .int .i64 0, .int .i64 0, .int .i64 0, .int .i64 0], .int .i64 8]) ⟨by kernel_rfl, by kernel_rfl⟩ (by rw [e]; first | done | kernel_rfl)
      · refine TC.skip ?_
        refine TE.next ?_
        refine TC.seq ?_
        refine TC.region ?_
        refine TL.run 4 [2, 1] [(2, .pointer (some ⟨b1, 0, none⟩)), (3, .pointer (some ⟨b2, 0, none⟩)), (4, .pointer (some ⟨b3, 0, none⟩)), (34, P.v s.At), (36, P.v t.At)] rfl ⟨by kernel_rfl, by kernel_rfl⟩ ?_
        refine TL.call (some 37) [(2, .pointer (some ⟨b1, 0, none⟩)), (3, .pointer (some ⟨b2, 0, none⟩)), (4, .pointer (some ⟨b3, 0, none⟩)), (37, .tuple #[.int .i64 ((plane_Distance s.At t.At).1), .int .i64 ((plane_Distance s.At t.At).2)])] (fun w _ => plane_Distance_w s.At t.At w) (by kernel_rfl) (by kernel_rfl) ?_
        generalize hr4 : plane_Distance s.At t.At = r4
        refine TL.run 10 [] [(2, .pointer (some ⟨b1, 0, none⟩)), (3, .pointer (some ⟨b2, 0, none⟩)), (4, .pointer (some ⟨b3, 0, none⟩)), (8, .int .i64 r4.1)] rfl ⟨by kernel_rfl, by kernel_rfl⟩ ?_
        refine TL.next rfl ?_
        refine TC.seq ?_
        refine TC.region ?_
        refine TL.run 10 [2, 1, 1, 1] [(2, .pointer (some ⟨b1, 0, none⟩)), (3, .pointer (some ⟨b2, 0, none⟩)), (4, .pointer (some ⟨b3, 0, none⟩)), (49, .agg #[.int .i64 s.ID, .int .i64 t.Time, .int .i64 r4.1, .int .i64 0, .int .i64 t.Height, .int .i64 t.Code])] rfl ⟨by kernel_rfl, by kernel_rfl⟩ ?_
        refine TL.write 0 (fun b4 => [(2, .pointer (some ⟨b1, 0, none⟩)), (3, .pointer (some ⟨b2, 0, none⟩)), (4, .pointer (some ⟨b3, 0, none⟩)), (10, .pointer (some ⟨b4, 0, none⟩)), (49, .agg #[.int .i64 s.ID, .int .i64 t.Time, .int .i64 r4.1, .int .i64 0, .int .i64 t.Height, .int .i64 t.Code])]) (fun b4 => [.inl (b4, .cells (Plot.c Plot.zero) 36 (0, 0)), .inl (b3, .cells (Plot.c Plot.zero) 36 (0, 0)), .inl (b2, .cells (Spot.c t) 26 (0, 0)), .inl (b1, .cells (RadarSite.c s) 32 (0, 0))]) (fun b4 => ⟨by kernel_rfl, by kernel_rfl⟩) (fun b4 => ?_)
        refine TL.write 0 (fun _ => [(2, .pointer (some ⟨b1, 0, none⟩)), (3, .pointer (some ⟨b2, 0, none⟩)), (4, .pointer (some ⟨b3, 0, none⟩)), (10, .pointer (some ⟨b4, 0, none⟩))]) (fun _ => [.inl (b4, .cells #[.int .i64 s.ID, .int .i64 t.Time, .int .i64 r4.1, .int .i64 0, .int .i64 t.Height, .int .i64 t.Code] 36 (0, 0)), .inl (b3, .cells (Plot.c Plot.zero) 36 (0, 0)), .inl (b2, .cells (Spot.c t) 26 (0, 0)), .inl (b1, .cells (RadarSite.c s) 32 (0, 0))]) (fun _ => ⟨by kernel_rfl, by kernel_rfl⟩) (fun _ => ?_)
        refine TL.next rfl ?_
        refine TC.seq ?_
        refine TC.seq ?_
        refine TC.region ?_
        refine TL.run 4 [3, 2] [(2, .pointer (some ⟨b1, 0, none⟩)), (3, .pointer (some ⟨b2, 0, none⟩)), (4, .pointer (some ⟨b3, 0, none⟩)), (10, .pointer (some ⟨b4, 0, none⟩)), (51, P.v s.At), (53, P.v t.At)] rfl ⟨by kernel_rfl, by kernel_rfl⟩ ?_
        refine TL.val (sV (do eqGuard .neq 24 (.tmp 51) (.tmp 53) (P.v s.At) (P.v t.At); binOp .neq 24 (P.v s.At) (P.v t.At))) (some 54) (.bool (!(P.eqb s.At t.At))) [(2, .pointer (some ⟨b1, 0, none⟩)), (3, .pointer (some ⟨b2, 0, none⟩)), (4, .pointer (some ⟨b3, 0, none⟩)), (10, .pointer (some ⟨b4, 0, none⟩)), (54, .bool (!(P.eqb s.At t.At)))] (fun w hM => run_neq (b := P.eqb s.At t.At) (by kernel_rfl) (by kernel_rfl) w) (by kernel_rfl) (by kernel_rfl) ?_
        refine TL.next rfl ?_
        refine TC.cond (!(P.eqb s.At t.At)) rfl (by kernel_rfl) (fun h4 => ?_) (fun h4 => ?_)
        · refine TC.region ?_
          refine TL.run 4 [2, 3] [(4, .pointer (some ⟨b3, 0, none⟩)), (10, .pointer (some ⟨b4, 0, none⟩)), (57, P.v t.At), (59, P.v s.At)] rfl ⟨by kernel_rfl, by kernel_rfl⟩ ?_
          refine TL.call (some 60) [(4, .pointer (some ⟨b3, 0, none⟩)), (10, .pointer (some ⟨b4, 0, none⟩)), (60, P.v (plane_Sub t.At s.At))] (fun w _ => plane_Sub_w t.At s.At w) (by kernel_rfl) (by kernel_rfl) ?_
          generalize hr5 : plane_Sub t.At s.At = r5
          refine TL.callM (Γ := Int × Int) (fun g => .tuple #[.int .i64 g.1, .int .i64 g.2]) (fun g => [.inr (Fact (g.1 = (ofF r5).1 ∧ g.2 = (ofF r5).2))]) [] [.inl (b4, .cells #[.int .i64 s.ID, .int .i64 t.Time, .int .i64 r4.1, .int .i64 0, .int .i64 t.Height, .int .i64 t.Code] 36 (0, 0)), .inl (b3, .cells (Plot.c Plot.zero) 36 (0, 0)), .inl (b2, .cells (Spot.c t) 26 (0, 0)), .inl (b1, .cells (RadarSite.c s) 32 (0, 0))] (some 61) (fun g => [(4, .pointer (some ⟨b3, 0, none⟩)), (10, .pointer (some ⟨b4, 0, none⟩)), (61, .tuple #[.int .i64 g.1, .int .i64 g.2])]) (fun w hM => angle_Of_w r5 w hM.pass (hT.sat hM)) (by kernel_rfl) (fun g => by kernel_rfl) ?_
          rintro ⟨r6, r7⟩
          refine TL.conv [.inr (Fact (r6 = (ofF r5).1 ∧ r7 = (ofF r5).2)), .inl (b4, .cells #[.int .i64 s.ID, .int .i64 t.Time, .int .i64 r4.1, .int .i64 0, .int .i64 t.Height, .int .i64 t.Code] 36 (0, 0)), .inl (b3, .cells (Plot.c Plot.zero) 36 (0, 0)), .inl (b2, .cells (Spot.c t) 26 (0, 0)), .inl (b1, .cells (RadarSite.c s) 32 (0, 0))] (fun _ hM => hM) ?_
          refine TL.know (fun w hM => hM.fact_at 0 rfl) (fun hp_angle_Of => ?_)
          refine TL.forget [.inl (b4, .cells #[.int .i64 s.ID, .int .i64 t.Time, .int .i64 r4.1, .int .i64 0, .int .i64 t.Height, .int .i64 t.Code] 36 (0, 0)), .inl (b3, .cells (Plot.c Plot.zero) 36 (0, 0)), .inl (b2, .cells (Spot.c t) 26 (0, 0)), .inl (b1, .cells (RadarSite.c s) 32 (0, 0))] (.cons _ (List.Sublist.refl _)) ?_
          have hr6 : (ofF r5).1 = r6 := (hp_angle_Of.1).symm
          have hr7 : (ofF r5).2 = r7 := (hp_angle_Of.2).symm
          refine TL.run 10 [] [(4, .pointer (some ⟨b3, 0, none⟩)), (10, .pointer (some ⟨b4, 0, none⟩)), (62, .int .i64 r6), (64, .pointer (some ⟨b4, 3, none⟩))] rfl ⟨by kernel_rfl, by kernel_rfl⟩ ?_
          refine TL.write 0 (fun _ => [(4, .pointer (some ⟨b3, 0, none⟩)), (10, .pointer (some ⟨b4, 0, none⟩))]) (fun _ => [.inl (b4, .cells #[.int .i64 s.ID, .int .i64 t.Time, .int .i64 r4.1, .int .i64 r6, .int .i64 t.Height, .int .i64 t.Code] 36 (0, 0)), .inl (b3, .cells (Plot.c Plot.zero) 36 (0, 0)), .inl (b2, .cells (Spot.c t) 26 (0, 0)), .inl (b1, .cells (RadarSite.c s) 32 (0, 0))]) (fun _ => ⟨by kernel_rfl, by kernel_rfl⟩) (fun _ => ?_)
          refine TL.next rfl ?_
          refine TC.seq ?_
          refine TC.region ?_
          refine TL.run 1 [0] [(4, .pointer (some ⟨b3, 0, none⟩)), (65, .agg #[.int .i64 s.ID, .int .i64 t.Time, .int .i64 r4.1, .int .i64 r6, .int .i64 t.Height, .int .i64 t.Code])] rfl ⟨by kernel_rfl, by kernel_rfl⟩ ?_
          refine TL.write 1 (fun _ => [(4, .pointer (some ⟨b3, 0, none⟩))]) (fun _ => [.inl (b4, .cells #[.int .i64 s.ID, .int .i64 t.Time, .int .i64 r4.1, .int .i64 r6, .int .i64 t.Height, .int .i64 t.Code] 36 (0, 0)), .inl (b3, .cells #[.int .i64 s.ID, .int .i64 t.Time, .int .i64 r4.1, .int .i64 r6, .int .i64 t.Height, .int .i64 t.Code] 36 (0, 0)), .inl (b2, .cells (Spot.c t) 26 (0, 0)), .inl (b1, .cells (RadarSite.c s) 32 (0, 0))]) (fun _ => ⟨by kernel_rfl, by kernel_rfl⟩) (fun _ => ?_)
          refine TL.run 3 [] [(4, .pointer (some ⟨b3, 0, none⟩)), (5, .int .i64 0)] rfl ⟨by kernel_rfl, by kernel_rfl⟩ ?_
          refine TL.next rfl ?_
          refine TC.ret ?_
          have e : radar_Plot s t = ((⟨s.ID, t.Time, r4.1, r6, t.Height, t.Code⟩ : Plot), 0) := by subst hr1 hr2 hr3 hr4 hr5 hr6 hr7; unfold radar_Plot; exact cond_f h1 (cond_f h2 (cond_f h3 (cond_t h4 (rfl))))
          exact TE.ret [1] (.tuple #[.agg #[.int .i64 s.ID, .int .i64 t.Time, .int .i64 r4.1, .int .i64 r6, .int .i64 t.Height, .int .i64 t.Code], .int .i64 0]) ⟨by kernel_rfl, by kernel_rfl⟩ (by rw [e]; first | done | kernel_rfl)
        · refine TC.skip ?_
          refine TE.next ?_
          refine TC.seq ?_
          refine TC.region ?_
          refine TL.run 1 [0] [(4, .pointer (some ⟨b3, 0, none⟩)), (65, .agg #[.int .i64 s.ID, .int .i64 t.Time, .int .i64 r4.1, .int .i64 0, .int .i64 t.Height, .int .i64 t.Code])] rfl ⟨by kernel_rfl, by kernel_rfl⟩ ?_
          refine TL.write 1 (fun _ => [(4, .pointer (some ⟨b3, 0, none⟩))]) (fun _ => [.inl (b4, .cells #[.int .i64 s.ID, .int .i64 t.Time, .int .i64 r4.1, .int .i64 0, .int .i64 t.Height, .int .i64 t.Code] 36 (0, 0)), .inl (b3, .cells #[.int .i64 s.ID, .int .i64 t.Time, .int .i64 r4.1, .int .i64 0, .int .i64 t.Height, .int .i64 t.Code] 36 (0, 0)), .inl (b2, .cells (Spot.c t) 26 (0, 0)), .inl (b1, .cells (RadarSite.c s) 32 (0, 0))]) (fun _ => ⟨by kernel_rfl, by kernel_rfl⟩) (fun _ => ?_)
          refine TL.run 3 [] [(4, .pointer (some ⟨b3, 0, none⟩)), (5, .int .i64 0)] rfl ⟨by kernel_rfl, by kernel_rfl⟩ ?_
          refine TL.next rfl ?_
          refine TC.ret ?_
          have e : radar_Plot s t = ((⟨s.ID, t.Time, r4.1, 0, t.Height, t.Code⟩ : Plot), 0) := by subst hr1 hr2 hr3 hr4; unfold radar_Plot; exact cond_f h1 (cond_f h2 (cond_f h3 (cond_f h4 (rfl))))
          exact TE.ret [1] (.tuple #[.agg #[.int .i64 s.ID, .int .i64 t.Time, .int .i64 r4.1, .int .i64 0, .int .i64 t.Height, .int .i64 t.Code], .int .i64 0]) ⟨by kernel_rfl, by kernel_rfl⟩ (by rw [e]; first | done | kernel_rfl)

def skywaykeep2_square (a : P) (b_ : P) : Int :=
  w64 ((w64 ((w64 (a.X - b_.X)) * (w64 (a.X - b_.X)))) + (w64 ((w64 (a.Y - b_.Y)) * (w64 (a.Y - b_.Y)))))

set_option maxRecDepth 100000 in
theorem skywaykeep2_square_w (a : P) (b_ : P) (w : World) : Calls Tryd.prog 12 #[P.v a, P.v b_] w (Ret w (.int .i64 (skywaykeep2_square a b_))) := by
  refine calls_intro (vs := [P.v a, P.v b_]) (w := w) Tryd.func12 rfl Tryd.ntmps12 rfl ?_
  refine TC.weak [(0, P.v a), (1, P.v b_)] (by kernel_rfl) ?_
  refine TC.seq ?_
  refine TC.region ?_
  refine TL.write 0 (fun b1 => [(1, P.v b_), (2, .pointer (some ⟨b1, 0, none⟩))]) (fun b1 => [.inl (b1, .cells (P.c a) 24 (0, 0))]) (fun b1 => ⟨by kernel_rfl, by kernel_rfl⟩) (fun b1 => ?_)
  refine TL.write 0 (fun b2 => [(2, .pointer (some ⟨b1, 0, none⟩)), (3, .pointer (some ⟨b2, 0, none⟩))]) (fun b2 => [.inl (b2, .cells (P.c b_) 24 (0, 0)), .inl (b1, .cells (P.c a) 24 (0, 0))]) (fun b2 => ⟨by kernel_rfl, by kernel_rfl⟩) (fun b2 => ?_)
  refine TL.run 3 [] [(2, .pointer (some ⟨b1, 0, none⟩)), (3, .pointer (some ⟨b2, 0, none⟩))] rfl ⟨by kernel_rfl, by kernel_rfl⟩ ?_
  refine TL.next rfl ?_
  refine TC.seq ?_
  refine TC.region ?_
  refine TL.run 24 [1, 0, 1, 0, 1, 0, 1, 0] [(4, .int .i64 (w64 ((w64 ((w64 (a.X - b_.X)) * (w64 (a.X - b_.X)))) + (w64 ((w64 (a.Y - b_.Y)) * (w64 (a.Y - b_.Y)))))))] rfl ⟨by kernel_rfl, by kernel_rfl⟩ ?_
  refine TL.next rfl ?_
  refine TC.ret ?_
  have e : skywaykeep2_square a b_ = (w64 ((w64 ((w64 (a.X - b_.X)) * (w64 (a.X - b_.X)))) + (w64 ((w64 (a.Y - b_.Y)) * (w64 (a.Y - b_.Y)))))) := by unfold skywaykeep2_square; exact rfl
  exact TE.ret [] (.int .i64 (w64 ((w64 ((w64 (a.X - b_.X)) * (w64 (a.X - b_.X)))) + (w64 ((w64 (a.Y - b_.Y)) * (w64 (a.Y - b_.Y))))))) ⟨by kernel_rfl, by kernel_rfl⟩ (by rw [e]; first | done | kernel_rfl)

def skywaykeep2_east : RadarSite :=
  (⟨1, ⟨0, 0⟩, 100000, 1, 1⟩ : RadarSite)

set_option maxRecDepth 100000 in
theorem skywaykeep2_east_w (w : World) : Calls Tryd.prog 5 #[] w (Ret w (RadarSite.v (skywaykeep2_east))) := by
  refine calls_intro (vs := []) (w := w) Tryd.func5 rfl Tryd.ntmps5 rfl ?_
  refine TC.weak [] (by kernel_rfl) ?_
  refine TC.seq ?_
  refine TC.region ?_
  refine TL.write 0 (fun b1 => [(0, .pointer (some ⟨b1, 0, none⟩))]) (fun b1 => [.inl (b1, .cells (RadarSite.c RadarSite.zero) 32 (0, 0))]) (fun b1 => ⟨by kernel_rfl, by kernel_rfl⟩) (fun b1 => ?_)
  refine TL.next rfl ?_
  refine TC.seq ?_
  refine TC.region ?_
  refine TL.run 1 [] [(0, .pointer (some ⟨b1, 0, none⟩)), (1, .agg #[.int .i64 1, .int .i64 0, .int .i64 0, .int .i64 100000, .int .i64 1, .int .i64 1])] rfl ⟨by kernel_rfl, by kernel_rfl⟩ ?_
  refine TL.write 0 (fun _ => [(0, .pointer (some ⟨b1, 0, none⟩))]) (fun _ => [.inl (b1, .cells #[.int .i64 1, .int .i64 0, .int .i64 0, .int .i64 100000, .int .i64 1, .int .i64 1] 32 (0, 0))]) (fun _ => ⟨by kernel_rfl, by kernel_rfl⟩) (fun _ => ?_)
  refine TL.next rfl ?_
  refine TC.ret ?_
  have e : skywaykeep2_east = (⟨1, ⟨0, 0⟩, 100000, 1, 1⟩ : RadarSite) := by unfold skywaykeep2_east; exact rfl
  exact TE.ret [0] (.agg #[.int .i64 1, .int .i64 0, .int .i64 0, .int .i64 100000, .int .i64 1, .int .i64 1]) ⟨by kernel_rfl, by kernel_rfl⟩ (by rw [e]; first | done | kernel_rfl)

end Go.Sky
