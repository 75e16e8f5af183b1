/- Functions of the program, each with the Lean function that it computes. Conditions: none. -/
import Derived.Test.YtbhemgagabdjkaaWc
import Derived.Test.YtbhemgagabdjkaaWd
namespace Go.Sky
open Go Go.Eng Go.Proofs
def begin_CheckRule (need : Int) (of_ : Int) : Int :=
  cond ((((decide (of_ < 1)) || (decide (of_ > 16))) || (decide (need < 1))) || (decide (need > of_))) (
    4) (
    0)

set_option maxRecDepth 100000 in
theorem begin_CheckRule_w (need : Int) (of_ : Int) (w : World) : Calls Try.prog 49 #[.int .i64 need, .int .i64 of_] w (Ret w (.int .i64 (begin_CheckRule need of_))) := by
  refine calls_intro (vs := [.int .i64 need, .int .i64 of_]) (w := w) Try.func49 rfl Try.ntmps49 rfl ?_
  refine TC.weak [(0, .int .i64 need), (1, .int .i64 of_)] (by kernel_rfl) ?_
  refine TC.seq ?_
  refine TC.region ?_
  refine TL.run 1 [] [(0, .int .i64 need), (1, .int .i64 of_)] rfl ⟨by kernel_rfl, by kernel_rfl⟩ ?_
  refine TL.next rfl ?_
  refine TC.seq ?_
  refine TC.seq ?_
  refine TC.region ?_
  refine TL.run 3 [] [(0, .int .i64 need), (1, .int .i64 of_), (7, .bool (decide (of_ < 1)))] rfl ⟨by kernel_rfl, by kernel_rfl⟩ ?_
  refine TL.join 7 (decide (of_ < 1)) 6 [] [] (fun β => [(0, .int .i64 need), (1, .int .i64 of_), (10, .bool (β || (decide (of_ > 16))))]) (by kernel_rfl) rfl ⟨by kernel_rfl, by kernel_rfl⟩ ⟨by kernel_rfl, by kernel_rfl⟩ ?_
  refine TL.run 7 [] [(0, .int .i64 need), (1, .int .i64 of_), (11, .bool ((decide (of_ < 1)) || (decide (of_ > 16))))] rfl ⟨by kernel_rfl, by kernel_rfl⟩ ?_
  refine TL.join 11 ((decide (of_ < 1)) || (decide (of_ > 16))) 10 [] [] (fun β => [(0, .int .i64 need), (1, .int .i64 of_), (14, .bool (β || (decide (need < 1))))]) (by kernel_rfl) rfl ⟨by kernel_rfl, by kernel_rfl⟩ ⟨by kernel_rfl, by kernel_rfl⟩ ?_
  refine TL.run 11 [] [(0, .int .i64 need), (1, .int .i64 of_), (15, .bool (((decide (of_ < 1)) || (decide (of_ > 16))) || (decide (need < 1))))] rfl ⟨by kernel_rfl, by kernel_rfl⟩ ?_
  refine TL.join 15 (((decide (of_ < 1)) || (decide (of_ > 16))) || (decide (need < 1))) 15 [] [] (fun β => [(19, .bool (β || (decide (need > of_))))]) (by kernel_rfl) rfl ⟨by kernel_rfl, by kernel_rfl⟩ ⟨by kernel_rfl, by kernel_rfl⟩ ?_
  refine TL.next rfl ?_
  refine TC.cond ((((decide (of_ < 1)) || (decide (of_ > 16))) || (decide (need < 1))) || (decide (need > of_))) rfl (by kernel_rfl) (fun h1 => ?_) (fun h1 => ?_)
  · refine TC.seq ?_
    refine TC.region ?_
    refine TL.run 1 [] [(4, .int .i64 4)] rfl ⟨by kernel_rfl, by kernel_rfl⟩ ?_
    refine TL.next rfl ?_
    refine TC.ret ?_
    refine TE.ret_then ?_
    have e : begin_CheckRule need of_ = 4 := by unfold begin_CheckRule; exact cond_t h1 (rfl)
    exact TE.ret [] (.int .i64 4) ⟨by kernel_rfl, by kernel_rfl⟩ (by rw [e]; first | done | kernel_rfl)
  · refine TC.skip ?_
    refine TE.next ?_
    refine TC.seq ?_
    refine TC.region ?_
    refine TL.run 1 [] [(4, .int .i64 0)] rfl ⟨by kernel_rfl, by kernel_rfl⟩ ?_
    refine TL.next rfl ?_
    refine TC.ret ?_
    have e : begin_CheckRule need of_ = 0 := by unfold begin_CheckRule; exact cond_f h1 (rfl)
    exact TE.ret [] (.int .i64 0) ⟨by kernel_rfl, by kernel_rfl⟩ (by rw [e]; first | done | kernel_rfl)

def begin_Check (b_ : BeginState) : Int :=
  cond ((decide (b_.Scans < 0)) || (decide (b_.Scans > 16))) (
    4) (
    cond (decide (b_.Hits < 0)) (
      3) (
      cond (decide (b_.Hits ≥ (w64 (1 * 2 ^ (min b_.Scans.toNat 64))))) (
        3) (
        0)))

set_option maxRecDepth 100000 in
theorem begin_Check_w (b_ : BeginState) (w : World) : Calls Try.prog 29 #[BeginState.v b_] w (Ret w (.int .i64 (begin_Check b_))) := by
  refine calls_intro (vs := [BeginState.v b_]) (w := w) Try.func29 rfl Try.ntmps29 rfl ?_
  refine TC.weak [(0, BeginState.v b_)] (by kernel_rfl) ?_
  refine TC.seq ?_
  refine TC.region ?_
  refine TL.write 0 (fun b1 => [(1, .pointer (some ⟨b1, 0, none⟩))]) (fun b1 => [.inl (b1, .cells (BeginState.c b_) 62 (0, 0))]) (fun b1 => ⟨by kernel_rfl, by kernel_rfl⟩) (fun b1 => ?_)
  refine TL.run 2 [] [(1, .pointer (some ⟨b1, 0, none⟩))] rfl ⟨by kernel_rfl, by kernel_rfl⟩ ?_
  refine TL.next rfl ?_
  refine TC.seq ?_
  refine TC.block ?_
  refine TC.seq ?_
  refine TC.region ?_
  refine TL.run 4 [0] [(1, .pointer (some ⟨b1, 0, none⟩)), (7, .bool (decide (b_.Scans < 0)))] rfl ⟨by kernel_rfl, by kernel_rfl⟩ ?_
  refine TL.join 7 (decide (b_.Scans < 0)) 8 [] [0] (fun β => [(1, .pointer (some ⟨b1, 0, none⟩)), (11, .bool (β || (decide (b_.Scans > 16))))]) (by kernel_rfl) rfl ⟨by kernel_rfl, by kernel_rfl⟩ ⟨by kernel_rfl, by kernel_rfl⟩ ?_
  refine TL.run 9 [] [(1, .pointer (some ⟨b1, 0, none⟩)), (3, .bool ((decide (b_.Scans < 0)) || (decide (b_.Scans > 16))))] rfl ⟨by kernel_rfl, by kernel_rfl⟩ ?_
  refine TL.next rfl ?_
  refine TC.cond ((decide (b_.Scans < 0)) || (decide (b_.Scans > 16))) rfl (by kernel_rfl) (fun h1 => ?_) (fun h1 => ?_)
  · refine TC.seq ?_
    refine TC.region ?_
    refine TL.run 1 [] [(2, .int .i64 4)] rfl ⟨by kernel_rfl, by kernel_rfl⟩ ?_
    refine TL.next rfl ?_
    refine TC.ret ?_
    refine TE.ret_block (TE.ret_then ?_)
    have e : begin_Check b_ = 4 := by unfold begin_Check; exact cond_t h1 (rfl)
    exact TE.ret [] (.int .i64 4) ⟨by kernel_rfl, by kernel_rfl⟩ (by rw [e]; first | done | kernel_rfl)
  · refine TC.seq ?_
    refine TC.draw 12 (by kernel_rfl) (by kernel_rfl) (by kernel_rfl) ?_
    refine TQ.run 4 [0] [(1, .pointer (some ⟨b1, 0, none⟩)), (16, .bool (decide (b_.Hits < 0)))] rfl ⟨by kernel_rfl, by kernel_rfl⟩ ?_
    refine TQ.split 16 (decide (b_.Hits < 0)) (by kernel_rfl) (fun h2 => ?_) (fun h2 => ?_)
    · refine TQ.run 12 [] [(12, .bool true)] rfl ⟨by kernel_rfl, by kernel_rfl⟩ ?_
      refine TQ.next rfl ?_
      refine TC.condT rfl (by kernel_rfl) ?_
      refine TC.seq ?_
      refine TC.region ?_
      refine TL.run 1 [] [(2, .int .i64 3)] rfl ⟨by kernel_rfl, by kernel_rfl⟩ ?_
      refine TL.next rfl ?_
      refine TC.ret ?_
      refine TE.ret_block (TE.ret_then ?_)
      have e : begin_Check b_ = 3 := by unfold begin_Check; exact cond_f h1 (cond_t h2 (rfl))
      exact TE.ret [] (.int .i64 3) ⟨by kernel_rfl, by kernel_rfl⟩ (by rw [e]; first | done | kernel_rfl)
    · refine TQ.run 8 [0, 0] [(16, .bool false), (18, .int .i64 b_.Hits), (20, .int .i64 b_.Scans)] rfl ⟨by kernel_rfl, by kernel_rfl⟩ ?_
      refine TQ.val (sV (binOp .shl 3 (.int .i64 1) (.int .i64 b_.Scans))) (some 21) (.int .i64 (w64 (1 * 2 ^ (min b_.Scans.toNat 64)))) [(16, .bool false), (18, .int .i64 b_.Hits), (21, .int .i64 (w64 (1 * 2 ^ (min b_.Scans.toNat 64))))] (fun w hM => run_shl (by have q0_ := (dec_f (or_f1 h1)); have q1_ := (dec_f (or_f2 h1)); have q2_ := (dec_f h2); first | omega | (simp only [List.length_drop]; omega) | (simp only [w64_eq]; omega))) rfl (by kernel_rfl) (by kernel_rfl) ?_
      refine TQ.run 12 [] [(12, .bool (decide (b_.Hits ≥ (w64 (1 * 2 ^ (min b_.Scans.toNat 64))))))] rfl ⟨by kernel_rfl, by kernel_rfl⟩ ?_
      refine TQ.next rfl ?_
      refine TC.cond (decide (b_.Hits ≥ (w64 (1 * 2 ^ (min b_.Scans.toNat 64))))) rfl (by kernel_rfl) (fun h3 => ?_) (fun h3 => ?_)
      · refine TC.seq ?_
        refine TC.region ?_
        refine TL.run 1 [] [(2, .int .i64 3)] rfl ⟨by kernel_rfl, by kernel_rfl⟩ ?_
        refine TL.next rfl ?_
        refine TC.ret ?_
        refine TE.ret_block (TE.ret_then ?_)
        have e : begin_Check b_ = 3 := by unfold begin_Check; exact cond_f h1 (cond_f h2 (cond_t h3 (rfl)))
        exact TE.ret [] (.int .i64 3) ⟨by kernel_rfl, by kernel_rfl⟩ (by rw [e]; first | done | kernel_rfl)
      · refine TC.skip ?_
        refine TE.normal_block ?_
        refine TE.next ?_
        refine TC.seq ?_
        refine TC.region ?_
        refine TL.run 1 [] [(2, .int .i64 0)] rfl ⟨by kernel_rfl, by kernel_rfl⟩ ?_
        refine TL.next rfl ?_
        refine TC.ret ?_
        have e : begin_Check b_ = 0 := by unfold begin_Check; exact cond_f h1 (cond_f h2 (cond_f h3 (rfl)))
        exact TE.ret [] (.int .i64 0) ⟨by kernel_rfl, by kernel_rfl⟩ (by rw [e]; first | done | kernel_rfl)

def begin_hits (b_ : BeginState) (last : Int) : Int :=
  let r1 := math_bits_OnesCount (wu64 (kand .i64 b_.Hits (w64 ((w64 (1 * 2 ^ (min last.toNat 64))) - 1))))
  r1

set_option maxRecDepth 100000 in
theorem begin_hits_w (b_ : BeginState) (last : Int) (w : World) (h0 : 0 ≤ last) : Calls Try.prog 62 #[BeginState.v b_, .int .i64 last] w (Ret w (.int .i64 (begin_hits b_ last))) := by
  refine calls_intro (vs := [BeginState.v b_, .int .i64 last]) (w := w) Try.func62 rfl Try.ntmps62 rfl ?_
  refine TC.weak [(0, BeginState.v b_), (1, .int .i64 last)] (by kernel_rfl) ?_
  refine TC.seq ?_
  refine TC.region ?_
  refine TL.write 0 (fun b1 => [(1, .int .i64 last), (2, .pointer (some ⟨b1, 0, none⟩))]) (fun b1 => [.inl (b1, .cells (BeginState.c b_) 62 (0, 0))]) (fun b1 => ⟨by kernel_rfl, by kernel_rfl⟩) (fun b1 => ?_)
  refine TL.run 2 [] [(1, .int .i64 last), (2, .pointer (some ⟨b1, 0, none⟩))] rfl ⟨by kernel_rfl, by kernel_rfl⟩ ?_
  refine TL.next rfl ?_
  refine TC.seq ?_
  refine TC.draw 9 (by kernel_rfl) (by kernel_rfl) (by kernel_rfl) ?_
  refine TQ.run 3 [0] [(6, .int .i64 b_.Hits), (7, .int .i64 last)] rfl ⟨by kernel_rfl, by kernel_rfl⟩ ?_
  refine TQ.val (sV (binOp .shl 3 (.int .i64 1) (.int .i64 last))) (some 8) (.int .i64 (w64 (1 * 2 ^ (min last.toNat 64)))) [(6, .int .i64 b_.Hits), (8, .int .i64 (w64 (1 * 2 ^ (min last.toNat 64))))] (fun w hM => run_shl h0) rfl (by kernel_rfl) (by kernel_rfl) ?_
  refine TQ.run 7 [] [(11, .int .u64 (wu64 (kand .i64 b_.Hits (w64 ((w64 (1 * 2 ^ (min last.toNat 64))) - 1)))))] rfl ⟨by kernel_rfl, by kernel_rfl⟩ ?_
  refine TQ.call (some 12) [(12, .int .i64 (math_bits_OnesCount (wu64 (kand .i64 b_.Hits (w64 ((w64 (1 * 2 ^ (min last.toNat 64))) - 1))))))] (fun w _ => math_bits_OnesCount_w (wu64 (kand .i64 b_.Hits (w64 ((w64 (1 * 2 ^ (min last.toNat 64))) - 1)))) w) rfl (by kernel_rfl) (by kernel_rfl) ?_
  generalize hr1 : math_bits_OnesCount (wu64 (kand .i64 b_.Hits (w64 ((w64 (1 * 2 ^ (min last.toNat 64))) - 1)))) = r1
  refine TQ.run 9 [] [(4, .int .i64 r1)] rfl ⟨by kernel_rfl, by kernel_rfl⟩ ?_
  refine TQ.next rfl ?_
  refine TC.ret ?_
  have e : begin_hits b_ last = r1 := by subst hr1; unfold begin_hits; exact rfl
  exact TE.ret [] (.int .i64 r1) ⟨by kernel_rfl, by kernel_rfl⟩ (by rw [e]; first | done | kernel_rfl)

def begin_step_L1 (b_ : BeginState) (need : Int) (of_ : Int) : Nat → Nat → ((Unit) ⊕ (BeginState × Int))
  | 0, _ => .inl ()
  | m + 1, k => let r2 := begin_hits (⟨kor .i64 (kand .i64 (w64 (b_.Hits * 2 ^ 1)) 65535) 1, imin 16 (w64 (b_.Scans + 1))⟩ : BeginState) (w64 (of_ - (1 + (k : Int))))
    cond ((decide (r2 > 0)) && (decide ((w64 (r2 + (1 + (k : Int)))) ≥ need))) (
      .inr ((⟨kor .i64 (kand .i64 (w64 (b_.Hits * 2 ^ 1)) 65535) 1, imin 16 (w64 (b_.Scans + 1))⟩ : BeginState), 0)) (
      begin_step_L1 b_ need of_ m (k + 1))
def begin_step_L2 (b_ : BeginState) (need : Int) (of_ : Int) : Nat → Nat → ((Unit) ⊕ (BeginState × Int))
  | 0, _ => .inl ()
  | m + 1, k_2 => let r4 := begin_hits (⟨kand .i64 (w64 (b_.Hits * 2 ^ 1)) 65535, imin 16 (w64 (b_.Scans + 1))⟩ : BeginState) (w64 (of_ - (1 + (k_2 : Int))))
    cond ((decide (r4 > 0)) && (decide ((w64 (r4 + (1 + (k_2 : Int)))) ≥ need))) (
      .inr ((⟨kand .i64 (w64 (b_.Hits * 2 ^ 1)) 65535, imin 16 (w64 (b_.Scans + 1))⟩ : BeginState), 0)) (
      begin_step_L2 b_ need of_ m (k_2 + 1))
def begin_step (b_ : BeginState) (hit : Bool) (need : Int) (of_ : Int) : BeginState × Int :=
  cond hit (
    let r1 := begin_hits (⟨kor .i64 (kand .i64 (w64 (b_.Hits * 2 ^ 1)) 65535) 1, imin 16 (w64 (b_.Scans + 1))⟩ : BeginState) of_
    cond (decide (r1 ≥ need)) (
      ((⟨kor .i64 (kand .i64 (w64 (b_.Hits * 2 ^ 1)) 65535) 1, imin 16 (w64 (b_.Scans + 1))⟩ : BeginState), 1)) (
      cond (decide ((imin 16 (w64 (b_.Scans + 1))) < of_)) (
        ((⟨kor .i64 (kand .i64 (w64 (b_.Hits * 2 ^ 1)) 65535) 1, imin 16 (w64 (b_.Scans + 1))⟩ : BeginState), 0)) (
        Sum.elim (fun _ =>
          ((⟨kor .i64 (kand .i64 (w64 (b_.Hits * 2 ^ 1)) 65535) 1, imin 16 (w64 (b_.Scans + 1))⟩ : BeginState), 2)) (fun r => r) (begin_step_L1 b_ need of_ ((of_ - 1).toNat) 0)))) (
    let r3 := begin_hits (⟨kand .i64 (w64 (b_.Hits * 2 ^ 1)) 65535, imin 16 (w64 (b_.Scans + 1))⟩ : BeginState) of_
    cond (decide (r3 ≥ need)) (
      ((⟨kand .i64 (w64 (b_.Hits * 2 ^ 1)) 65535, imin 16 (w64 (b_.Scans + 1))⟩ : BeginState), 1)) (
      cond (decide ((imin 16 (w64 (b_.Scans + 1))) < of_)) (
        ((⟨kand .i64 (w64 (b_.Hits * 2 ^ 1)) 65535, imin 16 (w64 (b_.Scans + 1))⟩ : BeginState), 0)) (
        Sum.elim (fun _ =>
          ((⟨kand .i64 (w64 (b_.Hits * 2 ^ 1)) 65535, imin 16 (w64 (b_.Scans + 1))⟩ : BeginState), 2)) (fun r => r) (begin_step_L2 b_ need of_ ((of_ - 1).toNat) 0))))

set_option maxRecDepth 100000 in
theorem begin_step_w (b_ : BeginState) (hit : Bool) (need : Int) (of_ : Int) (w : World) (hof : 1 ≤ of_ ∧ of_ ≤ 16) : Calls Try.prog 50 #[BeginState.v b_, .bool hit, .int .i64 need, .int .i64 of_] w (Ret w (.tuple #[BeginState.v ((begin_step b_ hit need of_).1), .int .i64 ((begin_step b_ hit need of_).2)])) := by
  refine calls_intro (vs := [BeginState.v b_, .bool hit, .int .i64 need, .int .i64 of_]) (w := w) Try.func50 rfl Try.ntmps50 rfl ?_
  refine TC.weak [(0, BeginState.v b_), (1, .bool hit), (2, .int .i64 need), (3, .int .i64 of_)] (by kernel_rfl) ?_
  refine TC.seq ?_
  refine TC.region ?_
  refine TL.write 0 (fun b1 => [(1, .bool hit), (2, .int .i64 need), (3, .int .i64 of_), (4, .pointer (some ⟨b1, 0, none⟩))]) (fun b1 => [.inl (b1, .cells (BeginState.c b_) 62 (0, 0))]) (fun b1 => ⟨by kernel_rfl, by kernel_rfl⟩) (fun b1 => ?_)
  refine TL.write 0 (fun b2 => [(1, .bool hit), (2, .int .i64 need), (3, .int .i64 of_), (4, .pointer (some ⟨b1, 0, none⟩)), (8, .pointer (some ⟨b2, 0, none⟩))]) (fun b2 => [.inl (b2, .cells (BeginState.c BeginState.zero) 62 (0, 0)), .inl (b1, .cells (BeginState.c b_) 62 (0, 0))]) (fun b2 => ⟨by kernel_rfl, by kernel_rfl⟩) (fun b2 => ?_)
  refine TL.run 3 [] [(1, .bool hit), (2, .int .i64 need), (3, .int .i64 of_), (4, .pointer (some ⟨b1, 0, none⟩)), (8, .pointer (some ⟨b2, 0, none⟩))] rfl ⟨by kernel_rfl, by kernel_rfl⟩ ?_
  refine TL.next rfl ?_
  refine TC.seq ?_
  refine TC.region ?_
  refine TL.run 5 [1] [(1, .bool hit), (2, .int .i64 need), (3, .int .i64 of_), (4, .pointer (some ⟨b1, 0, none⟩)), (8, .pointer (some ⟨b2, 0, none⟩)), (15, .int .i64 (kand .i64 (w64 (b_.Hits * 2 ^ 1)) 65535)), (16, .pointer (some ⟨b1, 0, none⟩))] rfl ⟨by kernel_rfl, by kernel_rfl⟩ ?_
  refine TL.write 1 (fun _ => [(1, .bool hit), (2, .int .i64 need), (3, .int .i64 of_), (4, .pointer (some ⟨b1, 0, none⟩)), (8, .pointer (some ⟨b2, 0, none⟩))]) (fun _ => [.inl (b2, .cells (BeginState.c BeginState.zero) 62 (0, 0)), .inl (b1, .cells #[.int .i64 (kand .i64 (w64 (b_.Hits * 2 ^ 1)) 65535), .int .i64 b_.Scans] 62 (0, 0))]) (fun _ => ⟨by kernel_rfl, by kernel_rfl⟩) (fun _ => ?_)
  refine TL.next rfl ?_
  refine TC.seq ?_
  refine TC.seq ?_
  refine TC.region ?_
  refine TL.run 1 [] [(2, .int .i64 need), (3, .int .i64 of_), (4, .pointer (some ⟨b1, 0, none⟩)), (8, .pointer (some ⟨b2, 0, none⟩)), (17, .bool hit)] rfl ⟨by kernel_rfl, by kernel_rfl⟩ ?_
  refine TL.next rfl ?_
  refine TC.cond hit rfl (by kernel_rfl) (fun h1 => ?_) (fun h1 => ?_)
  · refine TC.region ?_
    refine TL.run 4 [1] [(2, .int .i64 need), (3, .int .i64 of_), (4, .pointer (some ⟨b1, 0, none⟩)), (8, .pointer (some ⟨b2, 0, none⟩)), (20, .int .i64 (kor .i64 (kand .i64 (w64 (b_.Hits * 2 ^ 1)) 65535) 1)), (21, .pointer (some ⟨b1, 0, none⟩))] rfl ⟨by kernel_rfl, by kernel_rfl⟩ ?_
    refine TL.write 1 (fun _ => [(2, .int .i64 need), (3, .int .i64 of_), (4, .pointer (some ⟨b1, 0, none⟩)), (8, .pointer (some ⟨b2, 0, none⟩))]) (fun _ => [.inl (b2, .cells (BeginState.c BeginState.zero) 62 (0, 0)), .inl (b1, .cells #[.int .i64 (kor .i64 (kand .i64 (w64 (b_.Hits * 2 ^ 1)) 65535) 1), .int .i64 b_.Scans] 62 (0, 0))]) (fun _ => ⟨by kernel_rfl, by kernel_rfl⟩) (fun _ => ?_)
    refine TL.next rfl ?_
    refine TC.seq ?_
    refine TC.region ?_
    refine TL.run 5 [1] [(2, .int .i64 need), (3, .int .i64 of_), (4, .pointer (some ⟨b1, 0, none⟩)), (8, .pointer (some ⟨b2, 0, none⟩)), (25, .int .i64 (imin 16 (w64 (b_.Scans + 1)))), (26, .pointer (some ⟨b1, 1, none⟩))] rfl ⟨by kernel_rfl, by kernel_rfl⟩ ?_
    refine TL.write 1 (fun _ => [(2, .int .i64 need), (3, .int .i64 of_), (4, .pointer (some ⟨b1, 0, none⟩)), (8, .pointer (some ⟨b2, 0, none⟩))]) (fun _ => [.inl (b2, .cells (BeginState.c BeginState.zero) 62 (0, 0)), .inl (b1, .cells #[.int .i64 (kor .i64 (kand .i64 (w64 (b_.Hits * 2 ^ 1)) 65535) 1), .int .i64 (imin 16 (w64 (b_.Scans + 1)))] 62 (0, 0))]) (fun _ => ⟨by kernel_rfl, by kernel_rfl⟩) (fun _ => ?_)
    refine TL.next rfl ?_
    refine TC.seq ?_
    refine TC.seq ?_
    refine TC.region ?_
    refine TL.run 2 [1] [(2, .int .i64 need), (3, .int .i64 of_), (4, .pointer (some ⟨b1, 0, none⟩)), (8, .pointer (some ⟨b2, 0, none⟩)), (27, .agg #[.int .i64 (kor .i64 (kand .i64 (w64 (b_.Hits * 2 ^ 1)) 65535) 1), .int .i64 (imin 16 (w64 (b_.Scans + 1)))]), (28, .int .i64 of_)] rfl ⟨by kernel_rfl, by kernel_rfl⟩ ?_
    refine TL.call (some 29) [(2, .int .i64 need), (3, .int .i64 of_), (4, .pointer (some ⟨b1, 0, none⟩)), (8, .pointer (some ⟨b2, 0, none⟩)), (29, .int .i64 (begin_hits (⟨kor .i64 (kand .i64 (w64 (b_.Hits * 2 ^ 1)) 65535) 1, imin 16 (w64 (b_.Scans + 1))⟩ : BeginState) of_))] (fun w _ => begin_hits_w (⟨kor .i64 (kand .i64 (w64 (b_.Hits * 2 ^ 1)) 65535) 1, imin 16 (w64 (b_.Scans + 1))⟩ : BeginState) of_ w (by have m0_ := imin_l 16 (w64 (b_.Scans + 1)); have m1_ := imin_r 16 (w64 (b_.Scans + 1)); have m2_ := imin_or 16 (w64 (b_.Scans + 1)); first | omega | (simp only [w64_eq]; omega) | (simp only [List.length_append, List.length_cons, List.length_nil, List.length_set, List.length_replicate, List.length_map, List.length_take, List.length_drop, Nat.zero_add, Nat.add_zero]; omega))) (by kernel_rfl) (by kernel_rfl) ?_
    generalize hr1 : begin_hits (⟨kor .i64 (kand .i64 (w64 (b_.Hits * 2 ^ 1)) 65535) 1, imin 16 (w64 (b_.Scans + 1))⟩ : BeginState) of_ = r1
    refine TL.run 5 [] [(2, .int .i64 need), (3, .int .i64 of_), (4, .pointer (some ⟨b1, 0, none⟩)), (8, .pointer (some ⟨b2, 0, none⟩)), (31, .bool (decide (r1 ≥ need)))] rfl ⟨by kernel_rfl, by kernel_rfl⟩ ?_
    refine TL.next rfl ?_
    refine TC.cond (decide (r1 ≥ need)) rfl (by kernel_rfl) (fun h2 => ?_) (fun h2 => ?_)
    · refine TC.seq ?_
      refine TC.region ?_
      refine TL.run 1 [1] [(8, .pointer (some ⟨b2, 0, none⟩)), (32, .agg #[.int .i64 (kor .i64 (kand .i64 (w64 (b_.Hits * 2 ^ 1)) 65535) 1), .int .i64 (imin 16 (w64 (b_.Scans + 1)))])] rfl ⟨by kernel_rfl, by kernel_rfl⟩ ?_
      refine TL.write 0 (fun _ => [(8, .pointer (some ⟨b2, 0, none⟩))]) (fun _ => [.inl (b2, .cells #[.int .i64 (kor .i64 (kand .i64 (w64 (b_.Hits * 2 ^ 1)) 65535) 1), .int .i64 (imin 16 (w64 (b_.Scans + 1)))] 62 (0, 0)), .inl (b1, .cells #[.int .i64 (kor .i64 (kand .i64 (w64 (b_.Hits * 2 ^ 1)) 65535) 1), .int .i64 (imin 16 (w64 (b_.Scans + 1)))] 62 (0, 0))]) (fun _ => ⟨by kernel_rfl, by kernel_rfl⟩) (fun _ => ?_)
      refine TL.run 3 [] [(8, .pointer (some ⟨b2, 0, none⟩)), (9, .int .i64 1)] rfl ⟨by kernel_rfl, by kernel_rfl⟩ ?_
      refine TL.next rfl ?_
      refine TC.ret ?_
      refine TE.ret_then ?_
      have e : begin_step b_ hit need of_ = ((⟨kor .i64 (kand .i64 (w64 (b_.Hits * 2 ^ 1)) 65535) 1, imin 16 (w64 (b_.Scans + 1))⟩ : BeginState), 1) := by subst hr1; unfold begin_step; exact cond_t h1 (cond_t h2 (rfl))
      exact TE.ret [0] (.tuple #[.agg #[.int .i64 (kor .i64 (kand .i64 (w64 (b_.Hits * 2 ^ 1)) 65535) 1), .int .i64 (imin 16 (w64 (b_.Scans + 1)))], .int .i64 1]) ⟨by kernel_rfl, by kernel_rfl⟩ (by rw [e]; first | done | kernel_rfl)
    · refine TC.skip ?_
      refine TE.next ?_
      refine TC.seq ?_
      refine TC.seq ?_
      refine TC.region ?_
      refine TL.run 4 [1] [(2, .int .i64 need), (3, .int .i64 of_), (4, .pointer (some ⟨b1, 0, none⟩)), (8, .pointer (some ⟨b2, 0, none⟩)), (36, .bool (decide ((imin 16 (w64 (b_.Scans + 1))) < of_)))] rfl ⟨by kernel_rfl, by kernel_rfl⟩ ?_
      refine TL.next rfl ?_
      refine TC.cond (decide ((imin 16 (w64 (b_.Scans + 1))) < of_)) rfl (by kernel_rfl) (fun h3 => ?_) (fun h3 => ?_)
      · refine TC.seq ?_
        refine TC.region ?_
        refine TL.run 1 [1] [(8, .pointer (some ⟨b2, 0, none⟩)), (37, .agg #[.int .i64 (kor .i64 (kand .i64 (w64 (b_.Hits * 2 ^ 1)) 65535) 1), .int .i64 (imin 16 (w64 (b_.Scans + 1)))])] rfl ⟨by kernel_rfl, by kernel_rfl⟩ ?_
        refine TL.write 0 (fun _ => [(8, .pointer (some ⟨b2, 0, none⟩))]) (fun _ => [.inl (b2, .cells #[.int .i64 (kor .i64 (kand .i64 (w64 (b_.Hits * 2 ^ 1)) 65535) 1), .int .i64 (imin 16 (w64 (b_.Scans + 1)))] 62 (0, 0)), .inl (b1, .cells #[.int .i64 (kor .i64 (kand .i64 (w64 (b_.Hits * 2 ^ 1)) 65535) 1), .int .i64 (imin 16 (w64 (b_.Scans + 1)))] 62 (0, 0))]) (fun _ => ⟨by kernel_rfl, by kernel_rfl⟩) (fun _ => ?_)
        refine TL.run 3 [] [(8, .pointer (some ⟨b2, 0, none⟩)), (9, .int .i64 0)] rfl ⟨by kernel_rfl, by kernel_rfl⟩ ?_
        refine TL.next rfl ?_
        refine TC.ret ?_
        refine TE.ret_then ?_
        have e : begin_step b_ hit need of_ = ((⟨kor .i64 (kand .i64 (w64 (b_.Hits * 2 ^ 1)) 65535) 1, imin 16 (w64 (b_.Scans + 1))⟩ : BeginState), 0) := by subst hr1; unfold begin_step; exact cond_t h1 (cond_f h2 (cond_t h3 (rfl)))
        exact TE.ret [0] (.tuple #[.agg #[.int .i64 (kor .i64 (kand .i64 (w64 (b_.Hits * 2 ^ 1)) 65535) 1), .int .i64 (imin 16 (w64 (b_.Scans + 1)))], .int .i64 0]) ⟨by kernel_rfl, by kernel_rfl⟩ (by rw [e]; first | done | kernel_rfl)
      · refine TC.skip ?_
        refine TE.next ?_
        refine TC.seq ?_
        refine TC.seq ?_
        refine TC.region ?_
        refine TL.run 1 [] [(2, .int .i64 need), (3, .int .i64 of_), (4, .pointer (some ⟨b1, 0, none⟩)), (8, .pointer (some ⟨b2, 0, none⟩)), (10, .int .i64 1)] rfl ⟨by kernel_rfl, by kernel_rfl⟩ ?_
        refine TL.next rfl ?_
        refine TC.weak [(2, .int .i64 need), (3, .int .i64 of_), (4, .pointer (some ⟨b1, 0, none⟩)), (8, .pointer (some ⟨b2, 0, none⟩)), (10, .int .i64 1)] (by kernel_rfl) ?_
        obtain ⟨R1, hR⟩ : ∃ R, R = begin_step_L1 b_ need of_ ((of_ - 1).toNat) 0 := ⟨_, rfl⟩
        refine TC.cut (S := Unit) (fun (_ : Unit) => [(4, .pointer (some ⟨b1, 0, none⟩)), (8, .pointer (some ⟨b2, 0, none⟩))]) (fun (_ : Unit) => [.inl (b2, .cells (BeginState.c BeginState.zero) 62 (0, 0)), .inl (b1, .cells #[.int .i64 (kor .i64 (kand .i64 (w64 (b_.Hits * 2 ^ 1)) 65535) 1), .int .i64 (imin 16 (w64 (b_.Scans + 1)))] 62 (0, 0))]) (fun (_ : Unit) => R1 = .inl ()) ?_ ?_
        · refine TC.block ?_
          refine TC.rw 10 (.int .i64 1) (.int .i64 (1 + ((0 : Nat) : Int))) (by kernel_rfl) (int_eq (by omega)) ?_
          refine TC.weak [(2, .int .i64 need), (3, .int .i64 of_), (4, .pointer (some ⟨b1, 0, none⟩)), (8, .pointer (some ⟨b2, 0, none⟩)), (10, .int .i64 (1 + ((0 : Nat) : Int)))] (by kernel_rfl) ?_
          refine TC.loop (X := Nat) (fun k => [(2, .int .i64 need), (3, .int .i64 of_), (4, .pointer (some ⟨b1, 0, none⟩)), (8, .pointer (some ⟨b2, 0, none⟩)), (10, .int .i64 (1 + (k : Int)))]) (fun k => [.inl (b2, .cells (BeginState.c BeginState.zero) 62 (0, 0)), .inl (b1, .cells #[.int .i64 (kor .i64 (kand .i64 (w64 (b_.Hits * 2 ^ 1)) 65535) 1), .int .i64 (imin 16 (w64 (b_.Scans + 1)))] 62 (0, 0))]) (fun k => ((of_ - 1).toNat) - k) (fun k => k ≤ ((of_ - 1).toNat) ∧ R1 = begin_step_L1 b_ need of_ (((of_ - 1).toNat) - k) k) ?_ 0 ⟨Nat.zero_le _, hR⟩
          rintro k ⟨hk, hI⟩
          refine TC.seq ?_
          refine TC.seq ?_
          refine TC.region ?_
          refine TL.run 3 [] [(2, .int .i64 need), (3, .int .i64 of_), (4, .pointer (some ⟨b1, 0, none⟩)), (8, .pointer (some ⟨b2, 0, none⟩)), (10, .int .i64 (1 + (k : Int))), (40, .bool (decide ((1 + (k : Int)) < of_)))] rfl ⟨by kernel_rfl, by kernel_rfl⟩ ?_
          refine TL.next rfl ?_
          refine TC.cond (decide ((1 + (k : Int)) < of_)) rfl (by kernel_rfl) (fun h4 => ?_) (fun h4 => ?_)
          · have hlt : k < ((of_ - 1).toNat) := by have q0_ := (dec_f h2); have q1_ := (dec_f h3); have p0_ := (dec_t h4); first | omega | (simp only [w64_eq] at *; omega)
            have hd : ((of_ - 1).toNat) - k = (((of_ - 1).toNat) - (k + 1)) + 1 := by omega
            refine TC.skip ?_
            refine TE.next ?_
            refine TC.seq ?_
            refine TC.block ?_
            refine TC.seq ?_
            refine TC.region ?_
            refine TL.run 4 [1] [(2, .int .i64 need), (3, .int .i64 of_), (4, .pointer (some ⟨b1, 0, none⟩)), (8, .pointer (some ⟨b2, 0, none⟩)), (10, .int .i64 (1 + (k : Int))), (43, .agg #[.int .i64 (kor .i64 (kand .i64 (w64 (b_.Hits * 2 ^ 1)) 65535) 1), .int .i64 (imin 16 (w64 (b_.Scans + 1)))]), (46, .int .i64 (w64 (of_ - (1 + (k : Int)))))] rfl ⟨by kernel_rfl, by kernel_rfl⟩ ?_
            refine TL.call (some 47) [(2, .int .i64 need), (3, .int .i64 of_), (4, .pointer (some ⟨b1, 0, none⟩)), (8, .pointer (some ⟨b2, 0, none⟩)), (10, .int .i64 (1 + (k : Int))), (47, .int .i64 (begin_hits (⟨kor .i64 (kand .i64 (w64 (b_.Hits * 2 ^ 1)) 65535) 1, imin 16 (w64 (b_.Scans + 1))⟩ : BeginState) (w64 (of_ - (1 + (k : Int))))))] (fun w _ => begin_hits_w (⟨kor .i64 (kand .i64 (w64 (b_.Hits * 2 ^ 1)) 65535) 1, imin 16 (w64 (b_.Scans + 1))⟩ : BeginState) (w64 (of_ - (1 + (k : Int)))) w (by have q0_ := (dec_f h2); have q1_ := (dec_f h3); have q2_ := (dec_t h4); have m0_ := imin_l 16 (w64 (b_.Scans + 1)); have m1_ := imin_r 16 (w64 (b_.Scans + 1)); have m2_ := imin_or 16 (w64 (b_.Scans + 1)); first | omega | (simp only [w64_eq]; omega) | (simp only [List.length_append, List.length_cons, List.length_nil, List.length_set, List.length_replicate, List.length_map, List.length_take, List.length_drop, Nat.zero_add, Nat.add_zero]; omega))) (by kernel_rfl) (by kernel_rfl) ?_
            generalize hr2 : begin_hits (⟨kor .i64 (kand .i64 (w64 (b_.Hits * 2 ^ 1)) 65535) 1, imin 16 (w64 (b_.Scans + 1))⟩ : BeginState) (w64 (of_ - (1 + (k : Int)))) = r2
            refine TL.run 6 [] [(2, .int .i64 need), (3, .int .i64 of_), (4, .pointer (some ⟨b1, 0, none⟩)), (8, .pointer (some ⟨b2, 0, none⟩)), (10, .int .i64 (1 + (k : Int))), (11, .int .i64 r2)] rfl ⟨by kernel_rfl, by kernel_rfl⟩ ?_
            refine TL.next rfl ?_
            refine TC.seq ?_
            refine TC.region ?_
            refine TL.run 3 [] [(2, .int .i64 need), (3, .int .i64 of_), (4, .pointer (some ⟨b1, 0, none⟩)), (8, .pointer (some ⟨b2, 0, none⟩)), (10, .int .i64 (1 + (k : Int))), (11, .int .i64 r2), (50, .bool (decide (r2 > 0)))] rfl ⟨by kernel_rfl, by kernel_rfl⟩ ?_
            refine TL.join 50 (decide (r2 > 0)) 9 [] [] (fun β => [(2, .int .i64 need), (3, .int .i64 of_), (4, .pointer (some ⟨b1, 0, none⟩)), (8, .pointer (some ⟨b2, 0, none⟩)), (10, .int .i64 (1 + (k : Int))), (56, .bool (β && (decide ((w64 (r2 + (1 + (k : Int)))) ≥ need))))]) (by kernel_rfl) rfl ⟨by kernel_rfl, by kernel_rfl⟩ ⟨by kernel_rfl, by kernel_rfl⟩ ?_
            refine TL.next rfl ?_
            refine TC.cond ((decide (r2 > 0)) && (decide ((w64 (r2 + (1 + (k : Int)))) ≥ need))) rfl (by kernel_rfl) (fun h5 => ?_) (fun h5 => ?_)
            · refine TC.seq ?_
              refine TC.region ?_
              refine TL.run 1 [1] [(8, .pointer (some ⟨b2, 0, none⟩)), (57, .agg #[.int .i64 (kor .i64 (kand .i64 (w64 (b_.Hits * 2 ^ 1)) 65535) 1), .int .i64 (imin 16 (w64 (b_.Scans + 1)))])] rfl ⟨by kernel_rfl, by kernel_rfl⟩ ?_
              refine TL.write 0 (fun _ => [(8, .pointer (some ⟨b2, 0, none⟩))]) (fun _ => [.inl (b2, .cells #[.int .i64 (kor .i64 (kand .i64 (w64 (b_.Hits * 2 ^ 1)) 65535) 1), .int .i64 (imin 16 (w64 (b_.Scans + 1)))] 62 (0, 0)), .inl (b1, .cells #[.int .i64 (kor .i64 (kand .i64 (w64 (b_.Hits * 2 ^ 1)) 65535) 1), .int .i64 (imin 16 (w64 (b_.Scans + 1)))] 62 (0, 0))]) (fun _ => ⟨by kernel_rfl, by kernel_rfl⟩) (fun _ => ?_)
              refine TL.run 3 [] [(8, .pointer (some ⟨b2, 0, none⟩)), (9, .int .i64 0)] rfl ⟨by kernel_rfl, by kernel_rfl⟩ ?_
              refine TL.next rfl ?_
              refine TC.ret ?_
              refine TE.ret_block (TE.ret_then (TE.ret_then (TE.ret_block (TE.ret_then (TE.ret_then ?_)))))
              have e : begin_step b_ hit need of_ = ((⟨kor .i64 (kand .i64 (w64 (b_.Hits * 2 ^ 1)) 65535) 1, imin 16 (w64 (b_.Scans + 1))⟩ : BeginState), 0) := by subst hr1 hr2; unfold begin_step; exact cond_t h1 (cond_f h2 (cond_f h3 (elim_r (hR.symm.trans (hI.trans (by rw [hd]; exact cond_t h5 (rfl)))) rfl)))
              exact TE.ret [0] (.tuple #[.agg #[.int .i64 (kor .i64 (kand .i64 (w64 (b_.Hits * 2 ^ 1)) 65535) 1), .int .i64 (imin 16 (w64 (b_.Scans + 1)))], .int .i64 0]) ⟨by kernel_rfl, by kernel_rfl⟩ (by rw [e]; first | done | kernel_rfl)
            · refine TC.skip ?_
              refine TE.normal_block ?_
              refine TE.next ?_
              refine TC.region ?_
              refine TL.run 3 [] [(2, .int .i64 need), (3, .int .i64 of_), (4, .pointer (some ⟨b1, 0, none⟩)), (8, .pointer (some ⟨b2, 0, none⟩)), (10, .int .i64 (w64 ((1 + (k : Int)) + 1)))] rfl ⟨by kernel_rfl, by kernel_rfl⟩ ?_
              refine TL.done rfl ?_
              refine TE.rw 10 (.int .i64 (w64 ((1 + (k : Int)) + 1))) (.int .i64 (1 + ((k + 1 : Nat) : Int))) (by kernel_rfl) (int_eq (by have q0_ := (dec_f h2); have q1_ := (dec_f h3); have q2_ := (dec_t h4); have q3_ := ((and_f h5).imp (fun h => (dec_f h)) (fun h => (dec_f h))); first | omega | (rw [w64_id (by omega)]; omega) | (simp only [w64_eq] at *; omega))) ?_
              exact TE.again (x := k) (k + 1) ⟨by omega, hI.trans (by subst hr1 hr2; rw [hd]; exact cond_f h5 (rfl))⟩ (by show ((of_ - 1).toNat) - (k + 1) < ((of_ - 1).toNat) - k; omega) (by kernel_rfl) (.cons_cons _ (.cons_cons _ (.slnil)))
          · have hd : ((of_ - 1).toNat) - k = 0 := by have q0_ := (dec_f h2); have q1_ := (dec_f h3); have p0_ := (dec_f h4); first | omega | (simp only [w64_eq] at *; omega)
            refine TC.exit ?_
            refine TE.exit_then (TE.exit_then (TE.exit_same ?_))
            exact TE.cut () (hI.trans (by subst hr1; rw [hd]; exact rfl)) (by kernel_rfl) (.cons_cons _ (.cons_cons _ (.slnil)))
        · intro _ hJ
          refine TE.next ?_
          refine TC.seq ?_
          refine TC.region ?_
          refine TL.run 1 [1] [(8, .pointer (some ⟨b2, 0, none⟩)), (58, .agg #[.int .i64 (kor .i64 (kand .i64 (w64 (b_.Hits * 2 ^ 1)) 65535) 1), .int .i64 (imin 16 (w64 (b_.Scans + 1)))])] rfl ⟨by kernel_rfl, by kernel_rfl⟩ ?_
          refine TL.write 0 (fun _ => [(8, .pointer (some ⟨b2, 0, none⟩))]) (fun _ => [.inl (b2, .cells #[.int .i64 (kor .i64 (kand .i64 (w64 (b_.Hits * 2 ^ 1)) 65535) 1), .int .i64 (imin 16 (w64 (b_.Scans + 1)))] 62 (0, 0)), .inl (b1, .cells #[.int .i64 (kor .i64 (kand .i64 (w64 (b_.Hits * 2 ^ 1)) 65535) 1), .int .i64 (imin 16 (w64 (b_.Scans + 1)))] 62 (0, 0))]) (fun _ => ⟨by kernel_rfl, by kernel_rfl⟩) (fun _ => ?_)
          refine TL.run 3 [] [(8, .pointer (some ⟨b2, 0, none⟩)), (9, .int .i64 2)] rfl ⟨by kernel_rfl, by kernel_rfl⟩ ?_
          refine TL.next rfl ?_
          refine TC.ret ?_
          have e : begin_step b_ hit need of_ = ((⟨kor .i64 (kand .i64 (w64 (b_.Hits * 2 ^ 1)) 65535) 1, imin 16 (w64 (b_.Scans + 1))⟩ : BeginState), 2) := by subst hr1; unfold begin_step; exact cond_t h1 (cond_f h2 (cond_f h3 (elim_l (hR.symm.trans hJ) (rfl))))
          exact TE.ret [0] (.tuple #[.agg #[.int .i64 (kor .i64 (kand .i64 (w64 (b_.Hits * 2 ^ 1)) 65535) 1), .int .i64 (imin 16 (w64 (b_.Scans + 1)))], .int .i64 2]) ⟨by kernel_rfl, by kernel_rfl⟩ (by rw [e]; first | done | kernel_rfl)
  · refine TC.skip ?_
    refine TE.next ?_
    refine TC.seq ?_
    refine TC.region ?_
    refine TL.run 5 [1] [(2, .int .i64 need), (3, .int .i64 of_), (4, .pointer (some ⟨b1, 0, none⟩)), (8, .pointer (some ⟨b2, 0, none⟩)), (25, .int .i64 (imin 16 (w64 (b_.Scans + 1)))), (26, .pointer (some ⟨b1, 1, none⟩))] rfl ⟨by kernel_rfl, by kernel_rfl⟩ ?_
    refine TL.write 1 (fun _ => [(2, .int .i64 need), (3, .int .i64 of_), (4, .pointer (some ⟨b1, 0, none⟩)), (8, .pointer (some ⟨b2, 0, none⟩))]) (fun _ => [.inl (b2, .cells (BeginState.c BeginState.zero) 62 (0, 0)), .inl (b1, .cells #[.int .i64 (kand .i64 (w64 (b_.Hits * 2 ^ 1)) 65535), .int .i64 (imin 16 (w64 (b_.Scans + 1)))] 62 (0, 0))]) (fun _ => ⟨by kernel_rfl, by kernel_rfl⟩) (fun _ => ?_)
    refine TL.next rfl ?_
    refine TC.seq ?_
    refine TC.seq ?_
    refine TC.region ?_
    refine TL.run 2 [1] [(2, .int .i64 need), (3, .int .i64 of_), (4, .pointer (some ⟨b1, 0, none⟩)), (8, .pointer (some ⟨b2, 0, none⟩)), (27, .agg #[.int .i64 (kand .i64 (w64 (b_.Hits * 2 ^ 1)) 65535), .int .i64 (imin 16 (w64 (b_.Scans + 1)))]), (28, .int .i64 of_)] rfl ⟨by kernel_rfl, by kernel_rfl⟩ ?_
    refine TL.call (some 29) [(2, .int .i64 need), (3, .int .i64 of_), (4, .pointer (some ⟨b1, 0, none⟩)), (8, .pointer (some ⟨b2, 0, none⟩)), (29, .int .i64 (begin_hits (⟨kand .i64 (w64 (b_.Hits * 2 ^ 1)) 65535, imin 16 (w64 (b_.Scans + 1))⟩ : BeginState) of_))] (fun w _ => begin_hits_w (⟨kand .i64 (w64 (b_.Hits * 2 ^ 1)) 65535, imin 16 (w64 (b_.Scans + 1))⟩ : BeginState) of_ w (by have m0_ := imin_l 16 (w64 (b_.Scans + 1)); have m1_ := imin_r 16 (w64 (b_.Scans + 1)); have m2_ := imin_or 16 (w64 (b_.Scans + 1)); first | omega | (simp only [w64_eq]; omega) | (simp only [List.length_append, List.length_cons, List.length_nil, List.length_set, List.length_replicate, List.length_map, List.length_take, List.length_drop, Nat.zero_add, Nat.add_zero]; omega))) (by kernel_rfl) (by kernel_rfl) ?_
    generalize hr3 : begin_hits (⟨kand .i64 (w64 (b_.Hits * 2 ^ 1)) 65535, imin 16 (w64 (b_.Scans + 1))⟩ : BeginState) of_ = r3
    refine TL.run 5 [] [(2, .int .i64 need), (3, .int .i64 of_), (4, .pointer (some ⟨b1, 0, none⟩)), (8, .pointer (some ⟨b2, 0, none⟩)), (31, .bool (decide (r3 ≥ need)))] rfl ⟨by kernel_rfl, by kernel_rfl⟩ ?_
    refine TL.next rfl ?_
    refine TC.cond (decide (r3 ≥ need)) rfl (by kernel_rfl) (fun h6 => ?_) (fun h6 => ?_)
    · refine TC.seq ?_
      refine TC.region ?_
      refine TL.run 1 [1] [(8, .pointer (some ⟨b2, 0, none⟩)), (32, .agg #[.int .i64 (kand .i64 (w64 (b_.Hits * 2 ^ 1)) 65535), .int .i64 (imin 16 (w64 (b_.Scans + 1)))])] rfl ⟨by kernel_rfl, by kernel_rfl⟩ ?_
      refine TL.write 0 (fun _ => [(8, .pointer (some ⟨b2, 0, none⟩))]) (fun _ => [.inl (b2, .cells #[.int .i64 (kand .i64 (w64 (b_.Hits * 2 ^ 1)) 65535), .int .i64 (imin 16 (w64 (b_.Scans + 1)))] 62 (0, 0)), .inl (b1, .cells #[.int .i64 (kand .i64 (w64 (b_.Hits * 2 ^ 1)) 65535), .int .i64 (imin 16 (w64 (b_.Scans + 1)))] 62 (0, 0))]) (fun _ => ⟨by kernel_rfl, by kernel_rfl⟩) (fun _ => ?_)
      refine TL.run 3 [] [(8, .pointer (some ⟨b2, 0, none⟩)), (9, .int .i64 1)] rfl ⟨by kernel_rfl, by kernel_rfl⟩ ?_
      refine TL.next rfl ?_
      refine TC.ret ?_
      refine TE.ret_then ?_
      have e : begin_step b_ hit need of_ = ((⟨kand .i64 (w64 (b_.Hits * 2 ^ 1)) 65535, imin 16 (w64 (b_.Scans + 1))⟩ : BeginState), 1) := by subst hr3; unfold begin_step; exact cond_f h1 (cond_t h6 (rfl))
      exact TE.ret [0] (.tuple #[.agg #[.int .i64 (kand .i64 (w64 (b_.Hits * 2 ^ 1)) 65535), .int .i64 (imin 16 (w64 (b_.Scans + 1)))], .int .i64 1]) ⟨by kernel_rfl, by kernel_rfl⟩ (by rw [e]; first | done | kernel_rfl)
    · refine TC.skip ?_
      refine TE.next ?_
      refine TC.seq ?_
      refine TC.seq ?_
      refine TC.region ?_
      refine TL.run 4 [1] [(2, .int .i64 need), (3, .int .i64 of_), (4, .pointer (some ⟨b1, 0, none⟩)), (8, .pointer (some ⟨b2, 0, none⟩)), (36, .bool (decide ((imin 16 (w64 (b_.Scans + 1))) < of_)))] rfl ⟨by kernel_rfl, by kernel_rfl⟩ ?_
      refine TL.next rfl ?_
      refine TC.cond (decide ((imin 16 (w64 (b_.Scans + 1))) < of_)) rfl (by kernel_rfl) (fun h7 => ?_) (fun h7 => ?_)
      · refine TC.seq ?_
        refine TC.region ?_
        refine TL.run 1 [1] [(8, .pointer (some ⟨b2, 0, none⟩)), (37, .agg #[.int .i64 (kand .i64 (w64 (b_.Hits * 2 ^ 1)) 65535), .int .i64 (imin 16 (w64 (b_.Scans + 1)))])] rfl ⟨by kernel_rfl, by kernel_rfl⟩ ?_
        refine TL.write 0 (fun _ => [(8, .pointer (some ⟨b2, 0, none⟩))]) (fun _ => [.inl (b2, .cells #[.int .i64 (kand .i64 (w64 (b_.Hits * 2 ^ 1)) 65535), .int .i64 (imin 16 (w64 (b_.Scans + 1)))] 62 (0, 0)), .inl (b1, .cells #[.int .i64 (kand .i64 (w64 (b_.Hits * 2 ^ 1)) 65535), .int .i64 (imin 16 (w64 (b_.Scans + 1)))] 62 (0, 0))]) (fun _ => ⟨by kernel_rfl, by kernel_rfl⟩) (fun _ => ?_)
        refine TL.run 3 [] [(8, .pointer (some ⟨b2, 0, none⟩)), (9, .int .i64 0)] rfl ⟨by kernel_rfl, by kernel_rfl⟩ ?_
        refine TL.next rfl ?_
        refine TC.ret ?_
        refine TE.ret_then ?_
        have e : begin_step b_ hit need of_ = ((⟨kand .i64 (w64 (b_.Hits * 2 ^ 1)) 65535, imin 16 (w64 (b_.Scans + 1))⟩ : BeginState), 0) := by subst hr3; unfold begin_step; exact cond_f h1 (cond_f h6 (cond_t h7 (rfl)))
        exact TE.ret [0] (.tuple #[.agg #[.int .i64 (kand .i64 (w64 (b_.Hits * 2 ^ 1)) 65535), .int .i64 (imin 16 (w64 (b_.Scans + 1)))], .int .i64 0]) ⟨by kernel_rfl, by kernel_rfl⟩ (by rw [e]; first | done | kernel_rfl)
      · refine TC.skip ?_
        refine TE.next ?_
        refine TC.seq ?_
        refine TC.seq ?_
        refine TC.region ?_
        refine TL.run 1 [] [(2, .int .i64 need), (3, .int .i64 of_), (4, .pointer (some ⟨b1, 0, none⟩)), (8, .pointer (some ⟨b2, 0, none⟩)), (10, .int .i64 1)] rfl ⟨by kernel_rfl, by kernel_rfl⟩ ?_
        refine TL.next rfl ?_
        refine TC.weak [(2, .int .i64 need), (3, .int .i64 of_), (4, .pointer (some ⟨b1, 0, none⟩)), (8, .pointer (some ⟨b2, 0, none⟩)), (10, .int .i64 1)] (by kernel_rfl) ?_
        obtain ⟨R2, hR_2⟩ : ∃ R, R = begin_step_L2 b_ need of_ ((of_ - 1).toNat) 0 := ⟨_, rfl⟩
        refine TC.cut (S := Unit) (fun (_ : Unit) => [(4, .pointer (some ⟨b1, 0, none⟩)), (8, .pointer (some ⟨b2, 0, none⟩))]) (fun (_ : Unit) => [.inl (b2, .cells (BeginState.c BeginState.zero) 62 (0, 0)), .inl (b1, .cells #[.int .i64 (kand .i64 (w64 (b_.Hits * 2 ^ 1)) 65535), .int .i64 (imin 16 (w64 (b_.Scans + 1)))] 62 (0, 0))]) (fun (_ : Unit) => R2 = .inl ()) ?_ ?_
        · refine TC.block ?_
          refine TC.rw 10 (.int .i64 1) (.int .i64 (1 + ((0 : Nat) : Int))) (by kernel_rfl) (int_eq (by omega)) ?_
          refine TC.weak [(2, .int .i64 need), (3, .int .i64 of_), (4, .pointer (some ⟨b1, 0, none⟩)), (8, .pointer (some ⟨b2, 0, none⟩)), (10, .int .i64 (1 + ((0 : Nat) : Int)))] (by kernel_rfl) ?_
          refine TC.loop (X := Nat) (fun k_2 => [(2, .int .i64 need), (3, .int .i64 of_), (4, .pointer (some ⟨b1, 0, none⟩)), (8, .pointer (some ⟨b2, 0, none⟩)), (10, .int .i64 (1 + (k_2 : Int)))]) (fun k_2 => [.inl (b2, .cells (BeginState.c BeginState.zero) 62 (0, 0)), .inl (b1, .cells #[.int .i64 (kand .i64 (w64 (b_.Hits * 2 ^ 1)) 65535), .int .i64 (imin 16 (w64 (b_.Scans + 1)))] 62 (0, 0))]) (fun k_2 => ((of_ - 1).toNat) - k_2) (fun k_2 => k_2 ≤ ((of_ - 1).toNat) ∧ R2 = begin_step_L2 b_ need of_ (((of_ - 1).toNat) - k_2) k_2) ?_ 0 ⟨Nat.zero_le _, hR_2⟩
          rintro k_2 ⟨hk_2, hI_2⟩
          refine TC.seq ?_
          refine TC.seq ?_
          refine TC.region ?_
          refine TL.run 3 [] [(2, .int .i64 need), (3, .int .i64 of_), (4, .pointer (some ⟨b1, 0, none⟩)), (8, .pointer (some ⟨b2, 0, none⟩)), (10, .int .i64 (1 + (k_2 : Int))), (40, .bool (decide ((1 + (k_2 : Int)) < of_)))] rfl ⟨by kernel_rfl, by kernel_rfl⟩ ?_
          refine TL.next rfl ?_
          refine TC.cond (decide ((1 + (k_2 : Int)) < of_)) rfl (by kernel_rfl) (fun h8 => ?_) (fun h8 => ?_)
          · have hlt_2 : k_2 < ((of_ - 1).toNat) := by have q0_ := (dec_f h6); have q1_ := (dec_f h7); have p0_ := (dec_t h8); first | omega | (simp only [w64_eq] at *; omega)
            have hd_2 : ((of_ - 1).toNat) - k_2 = (((of_ - 1).toNat) - (k_2 + 1)) + 1 := by omega
            refine TC.skip ?_
            refine TE.next ?_
            refine TC.seq ?_
            refine TC.block ?_
            refine TC.seq ?_
            refine TC.region ?_
            refine TL.run 4 [1] [(2, .int .i64 need), (3, .int .i64 of_), (4, .pointer (some ⟨b1, 0, none⟩)), (8, .pointer (some ⟨b2, 0, none⟩)), (10, .int .i64 (1 + (k_2 : Int))), (43, .agg #[.int .i64 (kand .i64 (w64 (b_.Hits * 2 ^ 1)) 65535), .int .i64 (imin 16 (w64 (b_.Scans + 1)))]), (46, .int .i64 (w64 (of_ - (1 + (k_2 : Int)))))] rfl ⟨by kernel_rfl, by kernel_rfl⟩ ?_
            refine TL.call (some 47) [(2, .int .i64 need), (3, .int .i64 of_), (4, .pointer (some ⟨b1, 0, none⟩)), (8, .pointer (some ⟨b2, 0, none⟩)), (10, .int .i64 (1 + (k_2 : Int))), (47, .int .i64 (begin_hits (⟨kand .i64 (w64 (b_.Hits * 2 ^ 1)) 65535, imin 16 (w64 (b_.Scans + 1))⟩ : BeginState) (w64 (of_ - (1 + (k_2 : Int))))))] (fun w _ => begin_hits_w (⟨kand .i64 (w64 (b_.Hits * 2 ^ 1)) 65535, imin 16 (w64 (b_.Scans + 1))⟩ : BeginState) (w64 (of_ - (1 + (k_2 : Int)))) w (by have q0_ := (dec_f h6); have q1_ := (dec_f h7); have q2_ := (dec_t h8); have m0_ := imin_l 16 (w64 (b_.Scans + 1)); have m1_ := imin_r 16 (w64 (b_.Scans + 1)); have m2_ := imin_or 16 (w64 (b_.Scans + 1)); first | omega | (simp only [w64_eq]; omega) | (simp only [List.length_append, List.length_cons, List.length_nil, List.length_set, List.length_replicate, List.length_map, List.length_take, List.length_drop, Nat.zero_add, Nat.add_zero]; omega))) (by kernel_rfl) (by kernel_rfl) ?_
            generalize hr4 : begin_hits (⟨kand .i64 (w64 (b_.Hits * 2 ^ 1)) 65535, imin 16 (w64 (b_.Scans + 1))⟩ : BeginState) (w64 (of_ - (1 + (k_2 : Int)))) = r4
            refine TL.run 6 [] [(2, .int .i64 need), (3, .int .i64 of_), (4, .pointer (some ⟨b1, 0, none⟩)), (8, .pointer (some ⟨b2, 0, none⟩)), (10, .int .i64 (1 + (k_2 : Int))), (11, .int .i64 r4)] rfl ⟨by kernel_rfl, by kernel_rfl⟩ ?_
            refine TL.next rfl ?_
            refine TC.seq ?_
            refine TC.region ?_
            refine TL.run 3 [] [(2, .int .i64 need), (3, .int .i64 of_), (4, .pointer (some ⟨b1, 0, none⟩)), (8, .pointer (some ⟨b2, 0, none⟩)), (10, .int .i64 (1 + (k_2 : Int))), (11, .int .i64 r4), (50, .bool (decide (r4 > 0)))] rfl ⟨by kernel_rfl, by kernel_rfl⟩ ?_
            refine TL.join 50 (decide (r4 > 0)) 9 [] [] (fun β => [(2, .int .i64 need), (3, .int .i64 of_), (4, .pointer (some ⟨b1, 0, none⟩)), (8, .pointer (some ⟨b2, 0, none⟩)), (10, .int .i64 (1 + (k_2 : Int))), (56, .bool (β && (decide ((w64 (r4 + (1 + (k_2 : Int)))) ≥ need))))]) (by kernel_rfl) rfl ⟨by kernel_rfl, by kernel_rfl⟩ ⟨by kernel_rfl, by kernel_rfl⟩ ?_
            refine TL.next rfl ?_
            refine TC.cond ((decide (r4 > 0)) && (decide ((w64 (r4 + (1 + (k_2 : Int)))) ≥ need))) rfl (by kernel_rfl) (fun h9 => ?_) (fun h9 => ?_)
            · refine TC.seq ?_
              refine TC.region ?_
              refine TL.run 1 [1] [(8, .pointer (some ⟨b2, 0, none⟩)), (57, .agg #[.int .i64 (kand .i64 (w64 (b_.Hits * 2 ^ 1)) 65535), .int .i64 (imin 16 (w64 (b_.Scans + 1)))])] rfl ⟨by kernel_rfl, by kernel_rfl⟩ ?_
              refine TL.write 0 (fun _ => [(8, .pointer (some ⟨b2, 0, none⟩))]) (fun _ => [.inl (b2, .cells #[.int .i64 (kand .i64 (w64 (b_.Hits * 2 ^ 1)) 65535), .int .i64 (imin 16 (w64 (b_.Scans + 1)))] 62 (0, 0)), .inl (b1, .cells #[.int .i64 (kand .i64 (w64 (b_.Hits * 2 ^ 1)) 65535), .int .i64 (imin 16 (w64 (b_.Scans + 1)))] 62 (0, 0))]) (fun _ => ⟨by kernel_rfl, by kernel_rfl⟩) (fun _ => ?_)
              refine TL.run 3 [] [(8, .pointer (some ⟨b2, 0, none⟩)), (9, .int .i64 0)] rfl ⟨by kernel_rfl, by kernel_rfl⟩ ?_
              refine TL.next rfl ?_
              refine TC.ret ?_
              refine TE.ret_block (TE.ret_then (TE.ret_then (TE.ret_block (TE.ret_then (TE.ret_then ?_)))))
              have e : begin_step b_ hit need of_ = ((⟨kand .i64 (w64 (b_.Hits * 2 ^ 1)) 65535, imin 16 (w64 (b_.Scans + 1))⟩ : BeginState), 0) := by subst hr3 hr4; unfold begin_step; exact cond_f h1 (cond_f h6 (cond_f h7 (elim_r (hR_2.symm.trans (hI_2.trans (by rw [hd_2]; exact cond_t h9 (rfl)))) rfl)))
              exact TE.ret [0] (.tuple #[.agg #[.int .i64 (kand .i64 (w64 (b_.Hits * 2 ^ 1)) 65535), .int .i64 (imin 16 (w64 (b_.Scans + 1)))], .int .i64 0]) ⟨by kernel_rfl, by kernel_rfl⟩ (by rw [e]; first | done | kernel_rfl)
            · refine TC.skip ?_
              refine TE.normal_block ?_
              refine TE.next ?_
              refine TC.region ?_
              refine TL.run 3 [] [(2, .int .i64 need), (3, .int .i64 of_), (4, .pointer (some ⟨b1, 0, none⟩)), (8, .pointer (some ⟨b2, 0, none⟩)), (10, .int .i64 (w64 ((1 + (k_2 : Int)) + 1)))] rfl ⟨by kernel_rfl, by kernel_rfl⟩ ?_
              refine TL.done rfl ?_
              refine TE.rw 10 (.int .i64 (w64 ((1 + (k_2 : Int)) + 1))) (.int .i64 (1 + ((k_2 + 1 : Nat) : Int))) (by kernel_rfl) (int_eq (by have q0_ := (dec_f h6); have q1_ := (dec_f h7); have q2_ := (dec_t h8); have q3_ := ((and_f h9).imp (fun h => (dec_f h)) (fun h => (dec_f h))); first | omega | (rw [w64_id (by omega)]; omega) | (simp only [w64_eq] at *; omega))) ?_
              exact TE.again (x := k_2) (k_2 + 1) ⟨by omega, hI_2.trans (by subst hr3 hr4; rw [hd_2]; exact cond_f h9 (rfl))⟩ (by show ((of_ - 1).toNat) - (k_2 + 1) < ((of_ - 1).toNat) - k_2; omega) (by kernel_rfl) (.cons_cons _ (.cons_cons _ (.slnil)))
          · have hd_2 : ((of_ - 1).toNat) - k_2 = 0 := by have q0_ := (dec_f h6); have q1_ := (dec_f h7); have p0_ := (dec_f h8); first | omega | (simp only [w64_eq] at *; omega)
            refine TC.exit ?_
            refine TE.exit_then (TE.exit_then (TE.exit_same ?_))
            exact TE.cut () (hI_2.trans (by subst hr3; rw [hd_2]; exact rfl)) (by kernel_rfl) (.cons_cons _ (.cons_cons _ (.slnil)))
        · intro _ hJ_2
          refine TE.next ?_
          refine TC.seq ?_
          refine TC.region ?_
          refine TL.run 1 [1] [(8, .pointer (some ⟨b2, 0, none⟩)), (58, .agg #[.int .i64 (kand .i64 (w64 (b_.Hits * 2 ^ 1)) 65535), .int .i64 (imin 16 (w64 (b_.Scans + 1)))])] rfl ⟨by kernel_rfl, by kernel_rfl⟩ ?_
          refine TL.write 0 (fun _ => [(8, .pointer (some ⟨b2, 0, none⟩))]) (fun _ => [.inl (b2, .cells #[.int .i64 (kand .i64 (w64 (b_.Hits * 2 ^ 1)) 65535), .int .i64 (imin 16 (w64 (b_.Scans + 1)))] 62 (0, 0)), .inl (b1, .cells #[.int .i64 (kand .i64 (w64 (b_.Hits * 2 ^ 1)) 65535), .int .i64 (imin 16 (w64 (b_.Scans + 1)))] 62 (0, 0))]) (fun _ => ⟨by kernel_rfl, by kernel_rfl⟩) (fun _ => ?_)
          refine TL.run 3 [] [(8, .pointer (some ⟨b2, 0, none⟩)), (9, .int .i64 2)] rfl ⟨by kernel_rfl, by kernel_rfl⟩ ?_
          refine TL.next rfl ?_
          refine TC.ret ?_
          have e : begin_step b_ hit need of_ = ((⟨kand .i64 (w64 (b_.Hits * 2 ^ 1)) 65535, imin 16 (w64 (b_.Scans + 1))⟩ : BeginState), 2) := by subst hr3; unfold begin_step; exact cond_f h1 (cond_f h6 (cond_f h7 (elim_l (hR_2.symm.trans hJ_2) (rfl))))
          exact TE.ret [0] (.tuple #[.agg #[.int .i64 (kand .i64 (w64 (b_.Hits * 2 ^ 1)) 65535), .int .i64 (imin 16 (w64 (b_.Scans + 1)))], .int .i64 2]) ⟨by kernel_rfl, by kernel_rfl⟩ (by rw [e]; first | done | kernel_rfl)

def begin_Step (b_ : BeginState) (hit : Bool) (need : Int) (of_ : Int) : BeginState × Int × Int :=
  let r1 := begin_Check b_
  cond (r1 != 0) (
    ((⟨0, 0⟩ : BeginState), 0, r1)) (
    let r2 := begin_CheckRule need of_
    cond (r2 != 0) (
      ((⟨0, 0⟩ : BeginState), 0, r2)) (
      let r3 := begin_step b_ hit need of_
      (r3.1, r3.2, 0)))

theorem rule_of {need of_ r : Int} (hr : begin_CheckRule need of_ = r) (h : (r != 0) = false) : 1 ≤ of_ ∧ of_ ≤ 16 := by
  subst hr
  unfold begin_CheckRule at h
  cases hc : ((((decide (of_ < 1)) || (decide (of_ > 16))) || (decide (need < 1))) || (decide (need > of_))) with
  | true => simp only [hc, cond_true] at h; cases h
  | false =>
    have q := or_f1 (or_f1 hc)
    have q1 := dec_f (or_f1 q)
    have q2 := dec_f (or_f2 q)
    omega

set_option maxRecDepth 100000 in
theorem begin_Step_w (b_ : BeginState) (hit : Bool) (need : Int) (of_ : Int) (w : World) : Calls Try.prog 28 #[BeginState.v b_, .bool hit, .int .i64 need, .int .i64 of_] w (Ret w (.tuple #[BeginState.v ((begin_Step b_ hit need of_).1), .int .i64 ((begin_Step b_ hit need of_).2.1), .int .i64 ((begin_Step b_ hit need of_).2.2)])) := by
  refine calls_intro (vs := [BeginState.v b_, .bool hit, .int .i64 need, .int .i64 of_]) (w := w) Try.func28 rfl Try.ntmps28 rfl ?_
  refine TC.weak [(0, BeginState.v b_), (1, .bool hit), (2, .int .i64 need), (3, .int .i64 of_)] (by kernel_rfl) ?_
  refine TC.seq ?_
  refine TC.region ?_
  refine TL.write 0 (fun b1 => [(1, .bool hit), (2, .int .i64 need), (3, .int .i64 of_), (4, .pointer (some ⟨b1, 0, none⟩))]) (fun b1 => [.inl (b1, .cells (BeginState.c b_) 62 (0, 0))]) (fun b1 => ⟨by kernel_rfl, by kernel_rfl⟩) (fun b1 => ?_)
  refine TL.write 0 (fun b2 => [(1, .bool hit), (2, .int .i64 need), (3, .int .i64 of_), (4, .pointer (some ⟨b1, 0, none⟩)), (8, .pointer (some ⟨b2, 0, none⟩))]) (fun b2 => [.inl (b2, .cells (BeginState.c BeginState.zero) 62 (0, 0)), .inl (b1, .cells (BeginState.c b_) 62 (0, 0))]) (fun b2 => ⟨by kernel_rfl, by kernel_rfl⟩) (fun b2 => ?_)
  refine TL.run 4 [] [(1, .bool hit), (2, .int .i64 need), (3, .int .i64 of_), (4, .pointer (some ⟨b1, 0, none⟩)), (8, .pointer (some ⟨b2, 0, none⟩))] rfl ⟨by kernel_rfl, by kernel_rfl⟩ ?_
  refine TL.next rfl ?_
  refine TC.seq ?_
  refine TC.seq ?_
  refine TC.region ?_
  refine TL.run 1 [1] [(1, .bool hit), (2, .int .i64 need), (3, .int .i64 of_), (4, .pointer (some ⟨b1, 0, none⟩)), (8, .pointer (some ⟨b2, 0, none⟩)), (14, BeginState.v b_)] rfl ⟨by kernel_rfl, by kernel_rfl⟩ ?_
  refine TL.call (some 15) [(1, .bool hit), (2, .int .i64 need), (3, .int .i64 of_), (4, .pointer (some ⟨b1, 0, none⟩)), (8, .pointer (some ⟨b2, 0, none⟩)), (15, .int .i64 (begin_Check b_))] (fun w _ => begin_Check_w b_ w) (by kernel_rfl) (by kernel_rfl) ?_
  generalize hr1 : begin_Check b_ = r1
  refine TL.run 3 [] [(1, .bool hit), (2, .int .i64 need), (3, .int .i64 of_), (4, .pointer (some ⟨b1, 0, none⟩)), (8, .pointer (some ⟨b2, 0, none⟩)), (11, .int .i64 r1)] rfl ⟨by kernel_rfl, by kernel_rfl⟩ ?_
  refine TL.next rfl ?_
  refine TC.seq ?_
  refine TC.region ?_
  refine TL.run 2 [] [(1, .bool hit), (2, .int .i64 need), (3, .int .i64 of_), (4, .pointer (some ⟨b1, 0, none⟩)), (8, .pointer (some ⟨b2, 0, none⟩)), (11, .int .i64 r1), (17, .bool (r1 != 0))] rfl ⟨by kernel_rfl, by kernel_rfl⟩ ?_
  refine TL.next rfl ?_
  refine TC.cond (r1 != 0) rfl (by kernel_rfl) (fun h1 => ?_) (fun h1 => ?_)
  · refine TC.seq ?_
    refine TC.region ?_
    refine TL.run 2 [] [(8, .pointer (some ⟨b2, 0, none⟩)), (18, BeginState.v BeginState.zero), (19, .int .i64 r1)] rfl ⟨by kernel_rfl, by kernel_rfl⟩ ?_
    refine TL.write 0 (fun _ => [(8, .pointer (some ⟨b2, 0, none⟩)), (19, .int .i64 r1)]) (fun _ => [.inl (b2, .cells (BeginState.c BeginState.zero) 62 (0, 0)), .inl (b1, .cells (BeginState.c b_) 62 (0, 0))]) (fun _ => ⟨by kernel_rfl, by kernel_rfl⟩) (fun _ => ?_)
    refine TL.run 5 [] [(8, .pointer (some ⟨b2, 0, none⟩)), (9, .int .i64 0), (10, .int .i64 r1)] rfl ⟨by kernel_rfl, by kernel_rfl⟩ ?_
    refine TL.next rfl ?_
    refine TC.ret ?_
    refine TE.ret_then ?_
    have e : begin_Step b_ hit need of_ = ((⟨0, 0⟩ : BeginState), 0, r1) := by subst hr1; unfold begin_Step; exact cond_t h1 (rfl)
    exact TE.ret [0] (.tuple #[.agg #[.int .i64 0, .int .i64 0], .int .i64 0, .int .i64 r1]) ⟨by kernel_rfl, by kernel_rfl⟩ (by rw [e]; first | done | kernel_rfl)
  · refine TC.skip ?_
    refine TE.next ?_
    refine TC.seq ?_
    refine TC.seq ?_
    refine TC.region ?_
    refine TL.run 2 [] [(1, .bool hit), (2, .int .i64 need), (3, .int .i64 of_), (4, .pointer (some ⟨b1, 0, none⟩)), (8, .pointer (some ⟨b2, 0, none⟩)), (20, .int .i64 need), (21, .int .i64 of_)] rfl ⟨by kernel_rfl, by kernel_rfl⟩ ?_
    refine TL.call (some 22) [(1, .bool hit), (2, .int .i64 need), (3, .int .i64 of_), (4, .pointer (some ⟨b1, 0, none⟩)), (8, .pointer (some ⟨b2, 0, none⟩)), (22, .int .i64 (begin_CheckRule need of_))] (fun w _ => begin_CheckRule_w need of_ w) (by kernel_rfl) (by kernel_rfl) ?_
    generalize hr2 : begin_CheckRule need of_ = r2
    refine TL.run 4 [] [(1, .bool hit), (2, .int .i64 need), (3, .int .i64 of_), (4, .pointer (some ⟨b1, 0, none⟩)), (8, .pointer (some ⟨b2, 0, none⟩)), (12, .int .i64 r2)] rfl ⟨by kernel_rfl, by kernel_rfl⟩ ?_
    refine TL.next rfl ?_
    refine TC.seq ?_
    refine TC.region ?_
    refine TL.run 2 [] [(1, .bool hit), (2, .int .i64 need), (3, .int .i64 of_), (4, .pointer (some ⟨b1, 0, none⟩)), (8, .pointer (some ⟨b2, 0, none⟩)), (12, .int .i64 r2), (24, .bool (r2 != 0))] rfl ⟨by kernel_rfl, by kernel_rfl⟩ ?_
    refine TL.next rfl ?_
    refine TC.cond (r2 != 0) rfl (by kernel_rfl) (fun h2 => ?_) (fun h2 => ?_)
    · refine TC.seq ?_
      refine TC.region ?_
      refine TL.run 2 [] [(8, .pointer (some ⟨b2, 0, none⟩)), (25, BeginState.v BeginState.zero), (26, .int .i64 r2)] rfl ⟨by kernel_rfl, by kernel_rfl⟩ ?_
      refine TL.write 0 (fun _ => [(8, .pointer (some ⟨b2, 0, none⟩)), (26, .int .i64 r2)]) (fun _ => [.inl (b2, .cells (BeginState.c BeginState.zero) 62 (0, 0)), .inl (b1, .cells (BeginState.c b_) 62 (0, 0))]) (fun _ => ⟨by kernel_rfl, by kernel_rfl⟩) (fun _ => ?_)
      refine TL.run 5 [] [(8, .pointer (some ⟨b2, 0, none⟩)), (9, .int .i64 0), (10, .int .i64 r2)] rfl ⟨by kernel_rfl, by kernel_rfl⟩ ?_
      refine TL.next rfl ?_
      refine TC.ret ?_
      refine TE.ret_then ?_
      have e : begin_Step b_ hit need of_ = ((⟨0, 0⟩ : BeginState), 0, r2) := by subst hr1 hr2; unfold begin_Step; exact cond_f h1 (cond_t h2 (rfl))
      exact TE.ret [0] (.tuple #[.agg #[.int .i64 0, .int .i64 0], .int .i64 0, .int .i64 r2]) ⟨by kernel_rfl, by kernel_rfl⟩ (by rw [e]; first | done | kernel_rfl)
    · refine TC.skip ?_
      refine TE.next ?_
      refine TC.seq ?_
      refine TC.region ?_
      refine TL.run 4 [1] [(4, .pointer (some ⟨b1, 0, none⟩)), (8, .pointer (some ⟨b2, 0, none⟩)), (28, BeginState.v b_), (29, .bool hit), (30, .int .i64 need), (31, .int .i64 of_)] rfl ⟨by kernel_rfl, by kernel_rfl⟩ ?_
      refine TL.call (some 32) [(4, .pointer (some ⟨b1, 0, none⟩)), (8, .pointer (some ⟨b2, 0, none⟩)), (32, .tuple #[BeginState.v ((begin_step b_ hit need of_).1), .int .i64 ((begin_step b_ hit need of_).2)])] (fun w _ => begin_step_w b_ hit need of_ w (rule_of hr2 h2)) (by kernel_rfl) (by kernel_rfl) ?_
      generalize hr3 : begin_step b_ hit need of_ = r3
      refine TL.run 8 [] [(4, .pointer (some ⟨b1, 0, none⟩)), (8, .pointer (some ⟨b2, 0, none⟩)), (33, BeginState.v r3.1), (34, .int .i64 r3.2)] rfl ⟨by kernel_rfl, by kernel_rfl⟩ ?_
      refine TL.write 1 (fun _ => [(4, .pointer (some ⟨b1, 0, none⟩)), (8, .pointer (some ⟨b2, 0, none⟩)), (34, .int .i64 r3.2)]) (fun _ => [.inl (b2, .cells (BeginState.c BeginState.zero) 62 (0, 0)), .inl (b1, .cells (BeginState.c r3.1) 62 (0, 0))]) (fun _ => ⟨by kernel_rfl, by kernel_rfl⟩) (fun _ => ?_)
      refine TL.run 10 [] [(4, .pointer (some ⟨b1, 0, none⟩)), (8, .pointer (some ⟨b2, 0, none⟩)), (13, .int .i64 r3.2)] rfl ⟨by kernel_rfl, by kernel_rfl⟩ ?_
      refine TL.next rfl ?_
      refine TC.seq ?_
      refine TC.region ?_
      refine TL.run 2 [1] [(8, .pointer (some ⟨b2, 0, none⟩)), (35, BeginState.v r3.1), (36, .int .i64 r3.2)] rfl ⟨by kernel_rfl, by kernel_rfl⟩ ?_
      refine TL.write 0 (fun _ => [(8, .pointer (some ⟨b2, 0, none⟩)), (36, .int .i64 r3.2)]) (fun _ => [.inl (b2, .cells (BeginState.c r3.1) 62 (0, 0)), .inl (b1, .cells (BeginState.c r3.1) 62 (0, 0))]) (fun _ => ⟨by kernel_rfl, by kernel_rfl⟩) (fun _ => ?_)
      refine TL.run 5 [] [(8, .pointer (some ⟨b2, 0, none⟩)), (9, .int .i64 r3.2), (10, .int .i64 0)] rfl ⟨by kernel_rfl, by kernel_rfl⟩ ?_
      refine TL.next rfl ?_
      refine TC.ret ?_
      have e : begin_Step b_ hit need of_ = (r3.1, r3.2, 0) := by subst hr1 hr2 hr3; unfold begin_Step; exact cond_f h1 (cond_f h2 (rfl))
      exact TE.ret [0] (.tuple #[BeginState.v r3.1, .int .i64 r3.2, .int .i64 0]) ⟨by kernel_rfl, by kernel_rfl⟩ (by rw [e]; first | done | kernel_rfl)

def begin_Run_L1 (need : Int) (of_ : Int) : List Bool → Nat → BeginState → ((BeginState) ⊕ (Int × Int × Int))
  | [], _, b_ => .inl b_
  | x :: xs, k, b_ => let r2 := begin_step b_ x need of_
    cond (decide (r2.2 > 0)) (
      .inr (w64 ((k : Int) + 1), r2.2, 0)) (
      begin_Run_L1 need of_ xs (k + 1) r2.1)
def begin_Run (hits : List Bool) (need : Int) (of_ : Int) : Int × Int × Int :=
  cond (decide ((hits.length : Int) > 256)) (
    (0, 0, 2)) (
    let r1 := begin_CheckRule need of_
    cond (r1 != 0) (
      (0, 0, r1)) (
      Sum.elim (fun _ =>
        (0, 0, 0)) (fun r => r) (begin_Run_L1 need of_ hits 0 (⟨0, 0⟩ : BeginState))))

set_option maxRecDepth 100000 in
theorem begin_Run_w (A_hits : Option Addr) (c_hits : Nat) (hits : List Bool) (need : Int) (of_ : Int) (w : World) (h_hits : Rd w 1 A_hits (hits.map bc)) (_hc_hits : hits.length ≤ c_hits) : Calls Try.prog 34 #[.slice A_hits hits.length c_hits, .int .i64 need, .int .i64 of_] w (Ret w (.tuple #[.int .i64 ((begin_Run hits need of_).1), .int .i64 ((begin_Run hits need of_).2.1), .int .i64 ((begin_Run hits need of_).2.2)])) := by
  have s_hits := h_hits.short; rw [List.length_map] at s_hits
  refine calls_intro (vs := [.slice A_hits hits.length c_hits, .int .i64 need, .int .i64 of_]) (w := w) Try.func34 rfl Try.ntmps34 rfl ?_
  refine TC.weak [(0, .slice A_hits hits.length c_hits), (1, .int .i64 need), (2, .int .i64 of_)] (by kernel_rfl) ?_
  refine TC.seq ?_
  refine TC.region ?_
  refine TL.run 3 [] [(0, .slice A_hits hits.length c_hits), (1, .int .i64 need), (2, .int .i64 of_)] rfl ⟨by kernel_rfl, by kernel_rfl⟩ ?_
  refine TL.next rfl ?_
  refine TC.seq ?_
  refine TC.seq ?_
  refine TC.region ?_
  refine TL.run 3 [] [(0, .slice A_hits hits.length c_hits), (1, .int .i64 need), (2, .int .i64 of_), (16, .bool (decide ((hits.length : Int) > 256)))] rfl ⟨by kernel_rfl, by kernel_rfl⟩ ?_
  refine TL.next rfl ?_
  refine TC.cond (decide ((hits.length : Int) > 256)) rfl (by kernel_rfl) (fun h1 => ?_) (fun h1 => ?_)
  · refine TC.seq ?_
    refine TC.region ?_
    refine TL.run 3 [] [(6, .int .i64 0), (7, .int .i64 0), (8, .int .i64 2)] rfl ⟨by kernel_rfl, by kernel_rfl⟩ ?_
    refine TL.next rfl ?_
    refine TC.ret ?_
    refine TE.ret_then ?_
    have e : begin_Run hits need of_ = (0, 0, 2) := by unfold begin_Run; exact cond_t h1 (rfl)
    exact TE.ret [] (.tuple #[.int .i64 0, .int .i64 0, .int .i64 2]) ⟨by kernel_rfl, by kernel_rfl⟩ (by rw [e]; first | done | kernel_rfl)
  · refine TC.skip ?_
    refine TE.next ?_
    refine TC.seq ?_
    refine TC.seq ?_
    refine TC.region ?_
    refine TL.run 2 [] [(0, .slice A_hits hits.length c_hits), (1, .int .i64 need), (2, .int .i64 of_), (17, .int .i64 need), (18, .int .i64 of_)] rfl ⟨by kernel_rfl, by kernel_rfl⟩ ?_
    refine TL.call (some 19) [(0, .slice A_hits hits.length c_hits), (1, .int .i64 need), (2, .int .i64 of_), (19, .int .i64 (begin_CheckRule need of_))] (fun w _ => begin_CheckRule_w need of_ w) (by kernel_rfl) (by kernel_rfl) ?_
    generalize hr1 : begin_CheckRule need of_ = r1
    refine TL.run 4 [] [(0, .slice A_hits hits.length c_hits), (1, .int .i64 need), (2, .int .i64 of_), (9, .int .i64 r1)] rfl ⟨by kernel_rfl, by kernel_rfl⟩ ?_
    refine TL.next rfl ?_
    refine TC.seq ?_
    refine TC.region ?_
    refine TL.run 2 [] [(0, .slice A_hits hits.length c_hits), (1, .int .i64 need), (2, .int .i64 of_), (9, .int .i64 r1), (21, .bool (r1 != 0))] rfl ⟨by kernel_rfl, by kernel_rfl⟩ ?_
    refine TL.next rfl ?_
    refine TC.cond (r1 != 0) rfl (by kernel_rfl) (fun h2 => ?_) (fun h2 => ?_)
    · refine TC.seq ?_
      refine TC.region ?_
      refine TL.run 4 [] [(6, .int .i64 0), (7, .int .i64 0), (8, .int .i64 r1)] rfl ⟨by kernel_rfl, by kernel_rfl⟩ ?_
      refine TL.next rfl ?_
      refine TC.ret ?_
      refine TE.ret_then ?_
      have e : begin_Run hits need of_ = (0, 0, r1) := by subst hr1; unfold begin_Run; exact cond_f h1 (cond_t h2 (rfl))
      exact TE.ret [] (.tuple #[.int .i64 0, .int .i64 0, .int .i64 r1]) ⟨by kernel_rfl, by kernel_rfl⟩ (by rw [e]; first | done | kernel_rfl)
    · refine TC.skip ?_
      refine TE.next ?_
      refine TC.seq ?_
      refine TC.region ?_
      refine TL.write 0 (fun b1 => [(0, .slice A_hits hits.length c_hits), (1, .int .i64 need), (2, .int .i64 of_), (10, .pointer (some ⟨b1, 0, none⟩))]) (fun b1 => [.inl (b1, .cells (BeginState.c BeginState.zero) 62 (0, 0))]) (fun b1 => ⟨by kernel_rfl, by kernel_rfl⟩) (fun b1 => ?_)
      refine TL.next rfl ?_
      refine TC.seq ?_
      refine TC.seq ?_
      refine TC.region ?_
      refine TL.run 3 [] [(1, .int .i64 need), (2, .int .i64 of_), (10, .pointer (some ⟨b1, 0, none⟩)), (23, .slice A_hits hits.length c_hits), (24, .int .i64 (hits.length : Int)), (25, .int .i64 0)] rfl ⟨by kernel_rfl, by kernel_rfl⟩ ?_
      refine TL.next rfl ?_
      refine TC.weak [(1, .int .i64 need), (2, .int .i64 of_), (10, .pointer (some ⟨b1, 0, none⟩)), (23, .slice A_hits hits.length c_hits), (24, .int .i64 (hits.length : Int)), (25, .int .i64 0)] (by kernel_rfl) ?_
      obtain ⟨R1, hR⟩ : ∃ R, R = begin_Run_L1 need of_ hits 0 (⟨0, 0⟩ : BeginState) := ⟨_, rfl⟩
      refine TC.cut (S := BeginState) (fun b__2 => []) (fun b__2 => []) (fun b__2 => R1 = .inl b__2) ?_ ?_
      · refine TC.block ?_
        refine TC.loop (X := Nat × BeginState) (fun (k, b_) => [(1, .int .i64 need), (2, .int .i64 of_), (10, .pointer (some ⟨b1, 0, none⟩)), (23, .slice A_hits hits.length c_hits), (24, .int .i64 (hits.length : Int)), (25, .int .i64 (k : Int))]) (fun (k, b_) => [.inl (b1, .cells (BeginState.c b_) 62 (0, 0))]) (fun (k, b_) => hits.length - k) (fun (k, b_) => k ≤ hits.length ∧ R1 = begin_Run_L1 need of_ (hits.drop k) k b_) ?_ (0, (⟨0, 0⟩ : BeginState)) ⟨Nat.zero_le _, hR⟩
        rintro ⟨k, b_⟩ ⟨hk, hI⟩
        refine TC.seq ?_
        refine TC.region ?_
        refine TL.run 1 [] [(1, .int .i64 need), (2, .int .i64 of_), (10, .pointer (some ⟨b1, 0, none⟩)), (23, .slice A_hits hits.length c_hits), (24, .int .i64 (hits.length : Int)), (25, .int .i64 (k : Int)), (26, .bool (decide ((k : Int) < (hits.length : Int))))] rfl ⟨by kernel_rfl, by kernel_rfl⟩ ?_
        refine TL.next rfl ?_
        refine TC.seq ?_
        refine TC.cond (decide ((k : Int) < (hits.length : Int))) rfl (by kernel_rfl) (fun h3 => ?_) (fun h3 => ?_)
        · have hlt : k < hits.length := by have := of_decide_eq_true h3; first | omega | (simp only [List.length_append, List.length_cons, List.length_nil, List.length_set, List.length_replicate, List.length_map, List.length_take, List.length_drop, Nat.zero_add, Nat.add_zero] at this; omega)
          obtain ⟨x, hx⟩ : ∃ x, hits[k]? = some x := ⟨_, List.getElem?_eq_getElem hlt⟩
          have hd := drop_at hx
          refine TC.skip ?_
          refine TE.next ?_
          refine TC.seq ?_
          refine TC.block ?_
          refine TC.seq ?_
          refine TC.region ?_
          refine TL.run 1 [] [(1, .int .i64 need), (2, .int .i64 of_), (10, .pointer (some ⟨b1, 0, none⟩)), (23, .slice A_hits hits.length c_hits), (24, .int .i64 (hits.length : Int)), (25, .int .i64 (k : Int)), (27, .int .i64 (k : Int))] rfl ⟨by kernel_rfl, by kernel_rfl⟩ ?_
          refine TL.val (sV (Instr.indexAt 60 (.slice A_hits hits.length c_hits) (.int .i64 (k : Int)))) (some 28) (.pointer (some ((A_hits.getD noAddr).add (k * 1)))) [(1, .int .i64 need), (2, .int .i64 of_), (10, .pointer (some ⟨b1, 0, none⟩)), (23, .slice A_hits hits.length c_hits), (24, .int .i64 (hits.length : Int)), (25, .int .i64 (k : Int)), (27, .int .i64 (k : Int)), (28, .pointer (some ((A_hits.getD noAddr).add (k * 1))))] (fun w hM => run_index (h_hits.sat hM) (by simp) (by kernel_rfl) (by have q0_ := (dec_f h1); have q1_ := (bne_f h2); first | omega | (simp only [List.length_drop]; omega) | (simp only [w64_eq]; omega)) (by have q0_ := (dec_f h1); have q1_ := (bne_f h2); first | omega | (simp only [List.length_drop]; omega) | (simp only [w64_eq]; omega))) (by kernel_rfl) (by kernel_rfl) ?_
          refine TL.val (sV (Instr.loadAt 4 (.pointer (some ((A_hits.getD noAddr).add (k * 1)))))) (some 29) (.bool x) [(1, .int .i64 need), (2, .int .i64 of_), (10, .pointer (some ⟨b1, 0, none⟩)), (23, .slice A_hits hits.length c_hits), (24, .int .i64 (hits.length : Int)), (25, .int .i64 (k : Int)), (27, .int .i64 (k : Int)), (29, .bool x)] (fun w hM => run_load_one (off := 0) (.bool x) (h_hits.sat hM) (map_at hx) (by kernel_rfl) (by kernel_rfl)) (by kernel_rfl) (by kernel_rfl) ?_
          refine TL.run 5 [] [(1, .int .i64 need), (2, .int .i64 of_), (10, .pointer (some ⟨b1, 0, none⟩)), (11, .int .i64 (k : Int)), (12, .bool x), (23, .slice A_hits hits.length c_hits), (24, .int .i64 (hits.length : Int)), (25, .int .i64 (k : Int))] rfl ⟨by kernel_rfl, by kernel_rfl⟩ ?_
          refine TL.next rfl ?_
          refine TC.seq ?_
          refine TC.region ?_
          refine TL.run 1 [] [(1, .int .i64 need), (2, .int .i64 of_), (10, .pointer (some ⟨b1, 0, none⟩)), (11, .int .i64 (k : Int)), (12, .bool x), (23, .slice A_hits hits.length c_hits), (24, .int .i64 (hits.length : Int)), (25, .int .i64 (k : Int))] rfl ⟨by kernel_rfl, by kernel_rfl⟩ ?_
          refine TL.next rfl ?_
          refine TC.seq ?_
          refine TC.region ?_
          refine TL.run 4 [0] [(1, .int .i64 need), (2, .int .i64 of_), (10, .pointer (some ⟨b1, 0, none⟩)), (11, .int .i64 (k : Int)), (23, .slice A_hits hits.length c_hits), (24, .int .i64 (hits.length : Int)), (25, .int .i64 (k : Int)), (31, BeginState.v b_), (32, .bool x), (33, .int .i64 need), (34, .int .i64 of_)] rfl ⟨by kernel_rfl, by kernel_rfl⟩ ?_
          refine TL.call (some 35) [(1, .int .i64 need), (2, .int .i64 of_), (10, .pointer (some ⟨b1, 0, none⟩)), (11, .int .i64 (k : Int)), (23, .slice A_hits hits.length c_hits), (24, .int .i64 (hits.length : Int)), (25, .int .i64 (k : Int)), (35, .tuple #[BeginState.v ((begin_step b_ x need of_).1), .int .i64 ((begin_step b_ x need of_).2)])] (fun w _ => begin_step_w b_ x need of_ w (rule_of hr1 h2)) (by kernel_rfl) (by kernel_rfl) ?_
          generalize hr2 : begin_step b_ x need of_ = r2
          refine TL.run 8 [] [(1, .int .i64 need), (2, .int .i64 of_), (10, .pointer (some ⟨b1, 0, none⟩)), (11, .int .i64 (k : Int)), (23, .slice A_hits hits.length c_hits), (24, .int .i64 (hits.length : Int)), (25, .int .i64 (k : Int)), (36, BeginState.v r2.1), (37, .int .i64 r2.2)] rfl ⟨by kernel_rfl, by kernel_rfl⟩ ?_
          refine TL.write 0 (fun _ => [(1, .int .i64 need), (2, .int .i64 of_), (10, .pointer (some ⟨b1, 0, none⟩)), (11, .int .i64 (k : Int)), (23, .slice A_hits hits.length c_hits), (24, .int .i64 (hits.length : Int)), (25, .int .i64 (k : Int)), (37, .int .i64 r2.2)]) (fun _ => [.inl (b1, .cells (BeginState.c r2.1) 62 (0, 0))]) (fun _ => ⟨by kernel_rfl, by kernel_rfl⟩) (fun _ => ?_)
          refine TL.run 10 [] [(1, .int .i64 need), (2, .int .i64 of_), (10, .pointer (some ⟨b1, 0, none⟩)), (11, .int .i64 (k : Int)), (13, .int .i64 r2.2), (23, .slice A_hits hits.length c_hits), (24, .int .i64 (hits.length : Int)), (25, .int .i64 (k : Int))] rfl ⟨by kernel_rfl, by kernel_rfl⟩ ?_
          refine TL.next rfl ?_
          refine TC.seq ?_
          refine TC.region ?_
          refine TL.run 2 [] [(1, .int .i64 need), (2, .int .i64 of_), (10, .pointer (some ⟨b1, 0, none⟩)), (11, .int .i64 (k : Int)), (13, .int .i64 r2.2), (23, .slice A_hits hits.length c_hits), (24, .int .i64 (hits.length : Int)), (25, .int .i64 (k : Int)), (39, .bool (decide (r2.2 > 0)))] rfl ⟨by kernel_rfl, by kernel_rfl⟩ ?_
          refine TL.next rfl ?_
          refine TC.cond (decide (r2.2 > 0)) rfl (by kernel_rfl) (fun h4 => ?_) (fun h4 => ?_)
          · refine TC.seq ?_
            refine TC.region ?_
            refine TL.run 6 [] [(6, .int .i64 (w64 ((k : Int) + 1))), (7, .int .i64 r2.2), (8, .int .i64 0)] rfl ⟨by kernel_rfl, by kernel_rfl⟩ ?_
            refine TL.next rfl ?_
            refine TC.ret ?_
            refine TE.ret_block (TE.ret_then (TE.ret_then (TE.ret_block (TE.ret_then (TE.ret_then ?_)))))
            have e : begin_Run hits need of_ = (w64 ((k : Int) + 1), r2.2, 0) := by subst hr1 hr2; unfold begin_Run; exact cond_f h1 (cond_f h2 (elim_r (hR.symm.trans (hI.trans (by rw [hd]; exact cond_t h4 (rfl)))) rfl))
            exact TE.ret [] (.tuple #[.int .i64 (w64 ((k : Int) + 1)), .int .i64 r2.2, .int .i64 0]) ⟨by kernel_rfl, by kernel_rfl⟩ (by rw [e]; first | done | kernel_rfl)
          · refine TC.skip ?_
            refine TE.normal_block ?_
            refine TE.next ?_
            refine TC.region ?_
            refine TL.run 2 [] [(1, .int .i64 need), (2, .int .i64 of_), (10, .pointer (some ⟨b1, 0, none⟩)), (23, .slice A_hits hits.length c_hits), (24, .int .i64 (hits.length : Int)), (25, .int .i64 (w64 ((k : Int) + 1)))] rfl ⟨by kernel_rfl, by kernel_rfl⟩ ?_
            refine TL.done rfl ?_
            refine TE.rw 25 (.int .i64 (w64 ((k : Int) + 1))) (.int .i64 ((k + 1 : Nat) : Int)) (by kernel_rfl) (w64_cast k (by omega)) ?_
            exact TE.again (x := (k, b_)) (k + 1, r2.1) ⟨by omega, hI.trans (by subst hr1 hr2; rw [hd]; exact cond_f h4 (rfl))⟩ (by show hits.length - (k + 1) < hits.length - k; omega) (by kernel_rfl) (.cons_cons _ (.slnil))
        · have hd : hits.drop k = [] := List.drop_eq_nil_of_le (by have := of_decide_eq_false h3; first | omega | (simp at this; omega))
          refine TC.exit ?_
          refine TE.exit_then (TE.exit_then (TE.exit_same ?_))
          exact TE.cut b_ (hI.trans (by subst hr1; rw [hd]; exact rfl)) (by kernel_rfl) (.cons _ (.slnil))
      · rintro b__2 hJ
        refine TE.next ?_
        refine TC.seq ?_
        refine TC.region ?_
        refine TL.run 3 [] [(6, .int .i64 0), (7, .int .i64 0), (8, .int .i64 0)] rfl ⟨by kernel_rfl, by kernel_rfl⟩ ?_
        refine TL.next rfl ?_
        refine TC.ret ?_
        have e : begin_Run hits need of_ = (0, 0, 0) := by subst hr1; unfold begin_Run; exact cond_f h1 (cond_f h2 (elim_l (hR.symm.trans hJ) (rfl)))
        exact TE.ret [] (.tuple #[.int .i64 0, .int .i64 0, .int .i64 0]) ⟨by kernel_rfl, by kernel_rfl⟩ (by rw [e]; first | done | kernel_rfl)

def skywaykeep2_BeginRemembers_L1 : List Bool → Nat → Int → BeginState → ((BeginState) ⊕ (Bool))
  | [], _, _, b_ => .inl b_
  | x :: xs, k, want, b_ => let r1 := begin_Step b_ x 16 16
    cond (r1.2.2 != 0) (
      .inr false) (
      cond x (
        cond ((r1.1.Hits != (kor .i64 (kand .i64 (w64 (want * 2 ^ 1)) 65535) 1)) || (r1.1.Scans != (imin (w64 ((k : Int) + 1)) 16))) (
          .inr false) (
          let r2 := begin_Check r1.1
          cond (r2 != 0) (
            .inr false) (
            skywaykeep2_BeginRemembers_L1 xs (k + 1) (kor .i64 (kand .i64 (w64 (want * 2 ^ 1)) 65535) 1) r1.1))) (
        cond ((r1.1.Hits != (kand .i64 (w64 (want * 2 ^ 1)) 65535)) || (r1.1.Scans != (imin (w64 ((k : Int) + 1)) 16))) (
          .inr false) (
          let r3 := begin_Check r1.1
          cond (r3 != 0) (
            .inr false) (
            skywaykeep2_BeginRemembers_L1 xs (k + 1) (kand .i64 (w64 (want * 2 ^ 1)) 65535) r1.1))))
def skywaykeep2_BeginRemembers (hits : List Bool) : Bool :=
  Sum.elim (fun _ =>
    let r4 := begin_Step BeginState.zero true 16 16
    ((r4.2.2 == 0) && (r4.1.Hits == 1)) && (r4.1.Scans == 1)) (fun r => r) (skywaykeep2_BeginRemembers_L1 (hits.take (imin (hits.length : Int) 40).toNat) 0 0 (⟨0, 0⟩ : BeginState))

set_option maxRecDepth 100000 in
theorem skywaykeep2_BeginRemembers_w (A_hits : Option Addr) (c_hits : Nat) (hits : List Bool) (w : World) (h_hits : Rd w 1 A_hits (hits.map bc)) (hc_hits : hits.length ≤ c_hits) : Calls Try.prog 10 #[.slice A_hits hits.length c_hits] w (Ret w (.bool (skywaykeep2_BeginRemembers hits))) := by
  have s_hits := h_hits.short; rw [List.length_map] at s_hits
  refine calls_intro (vs := [.slice A_hits hits.length c_hits]) (w := w) Try.func10 rfl Try.ntmps10 rfl ?_
  refine TC.weak [(0, .slice A_hits hits.length c_hits)] (by kernel_rfl) ?_
  refine TC.seq ?_
  refine TC.region ?_
  refine TL.run 1 [] [(0, .slice A_hits hits.length c_hits)] rfl ⟨by kernel_rfl, by kernel_rfl⟩ ?_
  refine TL.next rfl ?_
  refine TC.seq ?_
  refine TC.region ?_
  refine TL.write 0 (fun b1 => [(0, .slice A_hits hits.length c_hits), (3, .pointer (some ⟨b1, 0, none⟩))]) (fun b1 => [.inl (b1, .cells (BeginState.c BeginState.zero) 62 (0, 0))]) (fun b1 => ⟨by kernel_rfl, by kernel_rfl⟩) (fun b1 => ?_)
  refine TL.next rfl ?_
  refine TC.seq ?_
  refine TC.region ?_
  refine TL.run 1 [] [(0, .slice A_hits hits.length c_hits), (3, .pointer (some ⟨b1, 0, none⟩)), (4, .int .i64 0)] rfl ⟨by kernel_rfl, by kernel_rfl⟩ ?_
  refine TL.next rfl ?_
  refine TC.seq ?_
  refine TC.seq ?_
  refine TC.region ?_
  refine TL.run 4 [] [(3, .pointer (some ⟨b1, 0, none⟩)), (4, .int .i64 0), (13, .slice A_hits hits.length c_hits), (16, .int .i64 (imin (hits.length : Int) 40))] rfl ⟨by kernel_rfl, by kernel_rfl⟩ ?_
  obtain ⟨A1, hA1⟩ : ∃ A, A = (if c_hits = 0 then A_hits else A_hits.map (fun a => a.add (0 * 1))) := ⟨_, rfl⟩
  have hR1 : Rd w 1 A1 ((hits.take (imin (hits.length : Int) 40).toNat).map bc) := by rw [hA1]; exact h_hits.cutMap 0 _ hc_hits
  have hC1 : (hits.take (imin (hits.length : Int) 40).toNat).length ≤ (c_hits - 0) := by have m0_ := imin_l (hits.length : Int) 40; have m1_ := imin_r (hits.length : Int) 40; have m2_ := imin_or (hits.length : Int) 40; simp only [List.length_take]; omega
  have s_hR1 := hR1.short; rw [List.length_map] at s_hR1
  refine TL.val (sV (Instr.sliceAt 60 (.slice A_hits hits.length c_hits) none (some (.int .i64 (imin (hits.length : Int) 40))) none)) (some 17) (.slice A1 ((hits.take (imin (hits.length : Int) 40).toNat).length) (c_hits - 0)) [(3, .pointer (some ⟨b1, 0, none⟩)), (4, .int .i64 0), (17, .slice A1 ((hits.take (imin (hits.length : Int) 40).toNat).length) (c_hits - 0))] (fun w hM => (run_slice 0 (imin (hits.length : Int) 40).toNat (by kernel_rfl) (.inl ⟨rfl, rfl⟩) (.inr ⟨_, _, rfl, (by have m0_ := imin_l (hits.length : Int) 40; have m1_ := imin_r (hits.length : Int) 40; have m2_ := imin_or (hits.length : Int) 40; first | omega | (simp only [List.length_drop]; omega) | (simp only [w64_eq]; omega)), rfl⟩) (by have m0_ := imin_l (hits.length : Int) 40; have m1_ := imin_r (hits.length : Int) 40; have m2_ := imin_or (hits.length : Int) 40; first | omega | (simp only [List.length_drop]; omega) | (simp only [w64_eq]; omega)) (by have m0_ := imin_l (hits.length : Int) 40; have m1_ := imin_r (hits.length : Int) 40; have m2_ := imin_or (hits.length : Int) 40; first | omega | (simp only [List.length_drop]; omega) | (simp only [w64_eq]; omega))).trans (by rw [hA1]; have m0_ := imin_l (hits.length : Int) 40; have m1_ := imin_r (hits.length : Int) 40; have m2_ := imin_or (hits.length : Int) 40; congr 3; simp only [List.length_take] <;> omega)) (by kernel_rfl) (by kernel_rfl) ?_
  refine TL.run 7 [] [(3, .pointer (some ⟨b1, 0, none⟩)), (4, .int .i64 0), (17, .slice A1 ((hits.take (imin (hits.length : Int) 40).toNat).length) (c_hits - 0)), (18, .int .i64 ((hits.take (imin (hits.length : Int) 40).toNat).length : Int)), (19, .int .i64 0)] rfl ⟨by kernel_rfl, by kernel_rfl⟩ ?_
  refine TL.next rfl ?_
  refine TC.weak [(3, .pointer (some ⟨b1, 0, none⟩)), (4, .int .i64 0), (17, .slice A1 ((hits.take (imin (hits.length : Int) 40).toNat).length) (c_hits - 0)), (18, .int .i64 ((hits.take (imin (hits.length : Int) 40).toNat).length : Int)), (19, .int .i64 0)] (by kernel_rfl) ?_
  obtain ⟨R1, hR⟩ : ∃ R, R = skywaykeep2_BeginRemembers_L1 (hits.take (imin (hits.length : Int) 40).toNat) 0 0 (⟨0, 0⟩ : BeginState) := ⟨_, rfl⟩
  refine TC.cut (S := BeginState) (fun b__2 => []) (fun b__2 => []) (fun b__2 => R1 = .inl b__2) ?_ ?_
  · refine TC.block ?_
    refine TC.loop (X := Nat × Int × BeginState) (fun (k, want, b_) => [(3, .pointer (some ⟨b1, 0, none⟩)), (4, .int .i64 want), (17, .slice A1 ((hits.take (imin (hits.length : Int) 40).toNat).length) (c_hits - 0)), (18, .int .i64 ((hits.take (imin (hits.length : Int) 40).toNat).length : Int)), (19, .int .i64 (k : Int))]) (fun (k, want, b_) => [.inl (b1, .cells (BeginState.c b_) 62 (0, 0))]) (fun (k, want, b_) => (hits.take (imin (hits.length : Int) 40).toNat).length - k) (fun (k, want, b_) => k ≤ (hits.take (imin (hits.length : Int) 40).toNat).length ∧ R1 = skywaykeep2_BeginRemembers_L1 ((hits.take (imin (hits.length : Int) 40).toNat).drop k) k want b_) ?_ (0, 0, (⟨0, 0⟩ : BeginState)) ⟨Nat.zero_le _, hR⟩
    rintro ⟨k, want, b_⟩ ⟨hk, hI⟩
    refine TC.seq ?_
    refine TC.region ?_
    refine TL.run 1 [] [(3, .pointer (some ⟨b1, 0, none⟩)), (4, .int .i64 want), (17, .slice A1 ((hits.take (imin (hits.length : Int) 40).toNat).length) (c_hits - 0)), (18, .int .i64 ((hits.take (imin (hits.length : Int) 40).toNat).length : Int)), (19, .int .i64 (k : Int)), (20, .bool (decide ((k : Int) < ((hits.take (imin (hits.length : Int) 40).toNat).length : Int))))] rfl ⟨by kernel_rfl, by kernel_rfl⟩ ?_
    refine TL.next rfl ?_
    refine TC.seq ?_
    refine TC.cond (decide ((k : Int) < ((hits.take (imin (hits.length : Int) 40).toNat).length : Int))) rfl (by kernel_rfl) (fun h1 => ?_) (fun h1 => ?_)
    · have hlt : k < (hits.take (imin (hits.length : Int) 40).toNat).length := by have := of_decide_eq_true h1; first | omega | (simp only [List.length_append, List.length_cons, List.length_nil, List.length_set, List.length_replicate, List.length_map, List.length_take, List.length_drop, Nat.zero_add, Nat.add_zero] at this; omega)
      obtain ⟨x, hx⟩ : ∃ x, (hits.take (imin (hits.length : Int) 40).toNat)[k]? = some x := ⟨_, List.getElem?_eq_getElem hlt⟩
      have hd := drop_at hx
      refine TC.skip ?_
      refine TE.next ?_
      refine TC.seq ?_
      refine TC.block ?_
      refine TC.seq ?_
      refine TC.region ?_
      refine TL.run 1 [] [(3, .pointer (some ⟨b1, 0, none⟩)), (4, .int .i64 want), (17, .slice A1 ((hits.take (imin (hits.length : Int) 40).toNat).length) (c_hits - 0)), (18, .int .i64 ((hits.take (imin (hits.length : Int) 40).toNat).length : Int)), (19, .int .i64 (k : Int)), (21, .int .i64 (k : Int))] rfl ⟨by kernel_rfl, by kernel_rfl⟩ ?_
      refine TL.val (sV (Instr.indexAt 60 (.slice A1 ((hits.take (imin (hits.length : Int) 40).toNat).length) (c_hits - 0)) (.int .i64 (k : Int)))) (some 22) (.pointer (some ((A1.getD noAddr).add (k * 1)))) [(3, .pointer (some ⟨b1, 0, none⟩)), (4, .int .i64 want), (17, .slice A1 ((hits.take (imin (hits.length : Int) 40).toNat).length) (c_hits - 0)), (18, .int .i64 ((hits.take (imin (hits.length : Int) 40).toNat).length : Int)), (19, .int .i64 (k : Int)), (21, .int .i64 (k : Int)), (22, .pointer (some ((A1.getD noAddr).add (k * 1))))] (fun w hM => run_index (hR1.sat hM) (by simp) (by kernel_rfl) (by first | omega | (simp only [List.length_drop]; omega) | (simp only [w64_eq]; omega)) (by first | omega | (simp only [List.length_drop]; omega) | (simp only [w64_eq]; omega))) (by kernel_rfl) (by kernel_rfl) ?_
      refine TL.val (sV (Instr.loadAt 4 (.pointer (some ((A1.getD noAddr).add (k * 1)))))) (some 23) (.bool x) [(3, .pointer (some ⟨b1, 0, none⟩)), (4, .int .i64 want), (17, .slice A1 ((hits.take (imin (hits.length : Int) 40).toNat).length) (c_hits - 0)), (18, .int .i64 ((hits.take (imin (hits.length : Int) 40).toNat).length : Int)), (19, .int .i64 (k : Int)), (21, .int .i64 (k : Int)), (23, .bool x)] (fun w hM => run_load_one (off := 0) (.bool x) (hR1.sat hM) (map_at hx) (by kernel_rfl) (by kernel_rfl)) (by kernel_rfl) (by kernel_rfl) ?_
      refine TL.run 5 [] [(3, .pointer (some ⟨b1, 0, none⟩)), (4, .int .i64 want), (5, .int .i64 (k : Int)), (6, .bool x), (17, .slice A1 ((hits.take (imin (hits.length : Int) 40).toNat).length) (c_hits - 0)), (18, .int .i64 ((hits.take (imin (hits.length : Int) 40).toNat).length : Int)), (19, .int .i64 (k : Int))] rfl ⟨by kernel_rfl, by kernel_rfl⟩ ?_
      refine TL.next rfl ?_
      refine TC.seq ?_
      refine TC.region ?_
      refine TL.run 2 [0] [(3, .pointer (some ⟨b1, 0, none⟩)), (4, .int .i64 want), (5, .int .i64 (k : Int)), (6, .bool x), (17, .slice A1 ((hits.take (imin (hits.length : Int) 40).toNat).length) (c_hits - 0)), (18, .int .i64 ((hits.take (imin (hits.length : Int) 40).toNat).length : Int)), (19, .int .i64 (k : Int)), (25, BeginState.v b_), (26, .bool x)] rfl ⟨by kernel_rfl, by kernel_rfl⟩ ?_
      refine TL.call (some 27) [(3, .pointer (some ⟨b1, 0, none⟩)), (4, .int .i64 want), (5, .int .i64 (k : Int)), (6, .bool x), (17, .slice A1 ((hits.take (imin (hits.length : Int) 40).toNat).length) (c_hits - 0)), (18, .int .i64 ((hits.take (imin (hits.length : Int) 40).toNat).length : Int)), (19, .int .i64 (k : Int)), (27, .tuple #[BeginState.v ((begin_Step b_ x 16 16).1), .int .i64 ((begin_Step b_ x 16 16).2.1), .int .i64 ((begin_Step b_ x 16 16).2.2)])] (fun w _ => begin_Step_w b_ x 16 16 w) (by kernel_rfl) (by kernel_rfl) ?_
      generalize hr1 : begin_Step b_ x 16 16 = r1
      refine TL.run 7 [] [(3, .pointer (some ⟨b1, 0, none⟩)), (4, .int .i64 want), (5, .int .i64 (k : Int)), (6, .bool x), (17, .slice A1 ((hits.take (imin (hits.length : Int) 40).toNat).length) (c_hits - 0)), (18, .int .i64 ((hits.take (imin (hits.length : Int) 40).toNat).length : Int)), (19, .int .i64 (k : Int)), (28, BeginState.v r1.1), (29, .int .i64 r1.2.1), (30, .int .i64 r1.2.2)] rfl ⟨by kernel_rfl, by kernel_rfl⟩ ?_
      refine TL.write 0 (fun b2 => [(3, .pointer (some ⟨b1, 0, none⟩)), (4, .int .i64 want), (5, .int .i64 (k : Int)), (6, .bool x), (7, .pointer (some ⟨b2, 0, none⟩)), (17, .slice A1 ((hits.take (imin (hits.length : Int) 40).toNat).length) (c_hits - 0)), (18, .int .i64 ((hits.take (imin (hits.length : Int) 40).toNat).length : Int)), (19, .int .i64 (k : Int)), (28, BeginState.v r1.1), (29, .int .i64 r1.2.1), (30, .int .i64 r1.2.2)]) (fun b2 => [.inl (b2, .cells (BeginState.c BeginState.zero) 62 (0, 0)), .inl (b1, .cells (BeginState.c b_) 62 (0, 0))]) (fun b2 => ⟨by kernel_rfl, by kernel_rfl⟩) (fun b2 => ?_)
      refine TL.write 0 (fun _ => [(3, .pointer (some ⟨b1, 0, none⟩)), (4, .int .i64 want), (5, .int .i64 (k : Int)), (6, .bool x), (7, .pointer (some ⟨b2, 0, none⟩)), (17, .slice A1 ((hits.take (imin (hits.length : Int) 40).toNat).length) (c_hits - 0)), (18, .int .i64 ((hits.take (imin (hits.length : Int) 40).toNat).length : Int)), (19, .int .i64 (k : Int)), (29, .int .i64 r1.2.1), (30, .int .i64 r1.2.2)]) (fun _ => [.inl (b2, .cells (BeginState.c r1.1) 62 (0, 0)), .inl (b1, .cells (BeginState.c b_) 62 (0, 0))]) (fun _ => ⟨by kernel_rfl, by kernel_rfl⟩) (fun _ => ?_)
      refine TL.run 11 [] [(3, .pointer (some ⟨b1, 0, none⟩)), (4, .int .i64 want), (5, .int .i64 (k : Int)), (6, .bool x), (7, .pointer (some ⟨b2, 0, none⟩)), (9, .int .i64 r1.2.2), (17, .slice A1 ((hits.take (imin (hits.length : Int) 40).toNat).length) (c_hits - 0)), (18, .int .i64 ((hits.take (imin (hits.length : Int) 40).toNat).length : Int)), (19, .int .i64 (k : Int))] rfl ⟨by kernel_rfl, by kernel_rfl⟩ ?_
      refine TL.next rfl ?_
      refine TC.seq ?_
      refine TC.seq ?_
      refine TC.region ?_
      refine TL.run 2 [] [(3, .pointer (some ⟨b1, 0, none⟩)), (4, .int .i64 want), (5, .int .i64 (k : Int)), (6, .bool x), (7, .pointer (some ⟨b2, 0, none⟩)), (17, .slice A1 ((hits.take (imin (hits.length : Int) 40).toNat).length) (c_hits - 0)), (18, .int .i64 ((hits.take (imin (hits.length : Int) 40).toNat).length : Int)), (19, .int .i64 (k : Int)), (32, .bool (r1.2.2 != 0))] rfl ⟨by kernel_rfl, by kernel_rfl⟩ ?_
      refine TL.next rfl ?_
      refine TC.cond (r1.2.2 != 0) rfl (by kernel_rfl) (fun h2 => ?_) (fun h2 => ?_)
      · refine TC.seq ?_
        refine TC.region ?_
        refine TL.run 1 [] [(2, .bool false)] rfl ⟨by kernel_rfl, by kernel_rfl⟩ ?_
        refine TL.next rfl ?_
        refine TC.ret ?_
        refine TE.ret_then (TE.ret_block (TE.ret_then (TE.ret_then (TE.ret_block (TE.ret_then (TE.ret_then ?_))))))
        have e : skywaykeep2_BeginRemembers hits = false := by subst hr1; unfold skywaykeep2_BeginRemembers; exact elim_r (hR.symm.trans (hI.trans (by rw [hd]; exact cond_t h2 (rfl)))) rfl
        exact TE.ret [] (.bool false) ⟨by kernel_rfl, by kernel_rfl⟩ (by rw [e]; first | done | kernel_rfl)
      · refine TC.skip ?_
        refine TE.next ?_
        refine TC.seq ?_
        refine TC.region ?_
        refine TL.run 1 [0] [(3, .pointer (some ⟨b1, 0, none⟩)), (4, .int .i64 want), (5, .int .i64 (k : Int)), (6, .bool x), (17, .slice A1 ((hits.take (imin (hits.length : Int) 40).toNat).length) (c_hits - 0)), (18, .int .i64 ((hits.take (imin (hits.length : Int) 40).toNat).length : Int)), (19, .int .i64 (k : Int)), (33, BeginState.v r1.1)] rfl ⟨by kernel_rfl, by kernel_rfl⟩ ?_
        refine TL.write 1 (fun _ => [(3, .pointer (some ⟨b1, 0, none⟩)), (4, .int .i64 want), (5, .int .i64 (k : Int)), (6, .bool x), (17, .slice A1 ((hits.take (imin (hits.length : Int) 40).toNat).length) (c_hits - 0)), (18, .int .i64 ((hits.take (imin (hits.length : Int) 40).toNat).length : Int)), (19, .int .i64 (k : Int))]) (fun _ => [.inl (b2, .cells (BeginState.c r1.1) 62 (0, 0)), .inl (b1, .cells (BeginState.c r1.1) 62 (0, 0))]) (fun _ => ⟨by kernel_rfl, by kernel_rfl⟩) (fun _ => ?_)
        refine TL.next rfl ?_
        refine TC.seq ?_
        refine TC.region ?_
        refine TL.run 4 [] [(3, .pointer (some ⟨b1, 0, none⟩)), (4, .int .i64 (kand .i64 (w64 (want * 2 ^ 1)) 65535)), (5, .int .i64 (k : Int)), (6, .bool x), (17, .slice A1 ((hits.take (imin (hits.length : Int) 40).toNat).length) (c_hits - 0)), (18, .int .i64 ((hits.take (imin (hits.length : Int) 40).toNat).length : Int)), (19, .int .i64 (k : Int))] rfl ⟨by kernel_rfl, by kernel_rfl⟩ ?_
        refine TL.next rfl ?_
        refine TC.seq ?_
        refine TC.seq ?_
        refine TC.region ?_
        refine TL.run 1 [] [(3, .pointer (some ⟨b1, 0, none⟩)), (4, .int .i64 (kand .i64 (w64 (want * 2 ^ 1)) 65535)), (5, .int .i64 (k : Int)), (17, .slice A1 ((hits.take (imin (hits.length : Int) 40).toNat).length) (c_hits - 0)), (18, .int .i64 ((hits.take (imin (hits.length : Int) 40).toNat).length : Int)), (19, .int .i64 (k : Int)), (37, .bool x)] rfl ⟨by kernel_rfl, by kernel_rfl⟩ ?_
        refine TL.next rfl ?_
        refine TC.cond x rfl (by kernel_rfl) (fun h3 => ?_) (fun h3 => ?_)
        · refine TC.region ?_
          refine TL.run 3 [] [(3, .pointer (some ⟨b1, 0, none⟩)), (4, .int .i64 (kor .i64 (kand .i64 (w64 (want * 2 ^ 1)) 65535) 1)), (5, .int .i64 (k : Int)), (17, .slice A1 ((hits.take (imin (hits.length : Int) 40).toNat).length) (c_hits - 0)), (18, .int .i64 ((hits.take (imin (hits.length : Int) 40).toNat).length : Int)), (19, .int .i64 (k : Int))] rfl ⟨by kernel_rfl, by kernel_rfl⟩ ?_
          refine TL.next rfl ?_
          refine TC.seq ?_
          refine TC.region ?_
          refine TL.run 5 [1] [(3, .pointer (some ⟨b1, 0, none⟩)), (4, .int .i64 (kor .i64 (kand .i64 (w64 (want * 2 ^ 1)) 65535) 1)), (5, .int .i64 (k : Int)), (17, .slice A1 ((hits.take (imin (hits.length : Int) 40).toNat).length) (c_hits - 0)), (18, .int .i64 ((hits.take (imin (hits.length : Int) 40).toNat).length : Int)), (19, .int .i64 (k : Int)), (44, .bool (r1.1.Hits != (kor .i64 (kand .i64 (w64 (want * 2 ^ 1)) 65535) 1)))] rfl ⟨by kernel_rfl, by kernel_rfl⟩ ?_
          refine TL.join 44 (r1.1.Hits != (kor .i64 (kand .i64 (w64 (want * 2 ^ 1)) 65535) 1)) 12 [] [1] (fun β => [(3, .pointer (some ⟨b1, 0, none⟩)), (4, .int .i64 (kor .i64 (kand .i64 (w64 (want * 2 ^ 1)) 65535) 1)), (17, .slice A1 ((hits.take (imin (hits.length : Int) 40).toNat).length) (c_hits - 0)), (18, .int .i64 ((hits.take (imin (hits.length : Int) 40).toNat).length : Int)), (19, .int .i64 (k : Int)), (51, .bool (β || (r1.1.Scans != (imin (w64 ((k : Int) + 1)) 16))))]) (by kernel_rfl) rfl ⟨by kernel_rfl, by kernel_rfl⟩ ⟨by kernel_rfl, by kernel_rfl⟩ ?_
          refine TL.run 13 [] [(3, .pointer (some ⟨b1, 0, none⟩)), (4, .int .i64 (kor .i64 (kand .i64 (w64 (want * 2 ^ 1)) 65535) 1)), (17, .slice A1 ((hits.take (imin (hits.length : Int) 40).toNat).length) (c_hits - 0)), (18, .int .i64 ((hits.take (imin (hits.length : Int) 40).toNat).length : Int)), (19, .int .i64 (k : Int)), (52, .bool ((r1.1.Hits != (kor .i64 (kand .i64 (w64 (want * 2 ^ 1)) 65535) 1)) || (r1.1.Scans != (imin (w64 ((k : Int) + 1)) 16))))] rfl ⟨by kernel_rfl, by kernel_rfl⟩ ?_
          refine TL.split 52 ((r1.1.Hits != (kor .i64 (kand .i64 (w64 (want * 2 ^ 1)) 65535) 1)) || (r1.1.Scans != (imin (w64 ((k : Int) + 1)) 16))) (by kernel_rfl) (fun h4 => ?_) (fun h4 => ?_)
          · refine TL.run 17 [] [(3, .pointer (some ⟨b1, 0, none⟩)), (4, .int .i64 (kor .i64 (kand .i64 (w64 (want * 2 ^ 1)) 65535) 1)), (17, .slice A1 ((hits.take (imin (hits.length : Int) 40).toNat).length) (c_hits - 0)), (18, .int .i64 ((hits.take (imin (hits.length : Int) 40).toNat).length : Int)), (19, .int .i64 (k : Int)), (56, .bool true)] rfl ⟨by kernel_rfl, by kernel_rfl⟩ ?_
            refine TL.next rfl ?_
            refine TC.condT rfl (by kernel_rfl) ?_
            refine TC.seq ?_
            refine TC.region ?_
            refine TL.run 1 [] [(2, .bool false)] rfl ⟨by kernel_rfl, by kernel_rfl⟩ ?_
            refine TL.next rfl ?_
            refine TC.ret ?_
            refine TE.ret_block (TE.ret_then (TE.ret_then (TE.ret_block (TE.ret_then (TE.ret_then ?_)))))
            have e : skywaykeep2_BeginRemembers hits = false := by subst hr1; unfold skywaykeep2_BeginRemembers; exact elim_r (hR.symm.trans (hI.trans (by rw [hd]; exact cond_f h2 (cond_t h3 (cond_t h4 (rfl)))))) rfl
            exact TE.ret [] (.bool false) ⟨by kernel_rfl, by kernel_rfl⟩ (by rw [e]; first | done | kernel_rfl)
          · refine TL.run 14 [1] [(3, .pointer (some ⟨b1, 0, none⟩)), (4, .int .i64 (kor .i64 (kand .i64 (w64 (want * 2 ^ 1)) 65535) 1)), (17, .slice A1 ((hits.take (imin (hits.length : Int) 40).toNat).length) (c_hits - 0)), (18, .int .i64 ((hits.take (imin (hits.length : Int) 40).toNat).length : Int)), (19, .int .i64 (k : Int)), (52, .bool false), (53, BeginState.v r1.1)] rfl ⟨by kernel_rfl, by kernel_rfl⟩ ?_
            refine TL.call (some 54) [(3, .pointer (some ⟨b1, 0, none⟩)), (4, .int .i64 (kor .i64 (kand .i64 (w64 (want * 2 ^ 1)) 65535) 1)), (17, .slice A1 ((hits.take (imin (hits.length : Int) 40).toNat).length) (c_hits - 0)), (18, .int .i64 ((hits.take (imin (hits.length : Int) 40).toNat).length : Int)), (19, .int .i64 (k : Int)), (52, .bool false), (54, .int .i64 (begin_Check r1.1))] (fun w _ => begin_Check_w r1.1 w) (by kernel_rfl) (by kernel_rfl) ?_
            generalize hr2 : begin_Check r1.1 = r2
            refine TL.run 17 [] [(3, .pointer (some ⟨b1, 0, none⟩)), (4, .int .i64 (kor .i64 (kand .i64 (w64 (want * 2 ^ 1)) 65535) 1)), (17, .slice A1 ((hits.take (imin (hits.length : Int) 40).toNat).length) (c_hits - 0)), (18, .int .i64 ((hits.take (imin (hits.length : Int) 40).toNat).length : Int)), (19, .int .i64 (k : Int)), (56, .bool (r2 != 0))] rfl ⟨by kernel_rfl, by kernel_rfl⟩ ?_
            refine TL.next rfl ?_
            refine TC.cond (r2 != 0) rfl (by kernel_rfl) (fun h5 => ?_) (fun h5 => ?_)
            · refine TC.seq ?_
              refine TC.region ?_
              refine TL.run 1 [] [(2, .bool false)] rfl ⟨by kernel_rfl, by kernel_rfl⟩ ?_
              refine TL.next rfl ?_
              refine TC.ret ?_
              refine TE.ret_block (TE.ret_then (TE.ret_then (TE.ret_block (TE.ret_then (TE.ret_then ?_)))))
              have e : skywaykeep2_BeginRemembers hits = false := by subst hr1 hr2; unfold skywaykeep2_BeginRemembers; exact elim_r (hR.symm.trans (hI.trans (by rw [hd]; exact cond_f h2 (cond_t h3 (cond_f h4 (cond_t h5 (rfl))))))) rfl
              exact TE.ret [] (.bool false) ⟨by kernel_rfl, by kernel_rfl⟩ (by rw [e]; first | done | kernel_rfl)
            · refine TC.skip ?_
              refine TE.normal_block ?_
              refine TE.next ?_
              refine TC.region ?_
              refine TL.run 2 [] [(3, .pointer (some ⟨b1, 0, none⟩)), (4, .int .i64 (kor .i64 (kand .i64 (w64 (want * 2 ^ 1)) 65535) 1)), (17, .slice A1 ((hits.take (imin (hits.length : Int) 40).toNat).length) (c_hits - 0)), (18, .int .i64 ((hits.take (imin (hits.length : Int) 40).toNat).length : Int)), (19, .int .i64 (w64 ((k : Int) + 1)))] rfl ⟨by kernel_rfl, by kernel_rfl⟩ ?_
              refine TL.done rfl ?_
              refine TE.rw 19 (.int .i64 (w64 ((k : Int) + 1))) (.int .i64 ((k + 1 : Nat) : Int)) (by kernel_rfl) (w64_cast k (by omega)) ?_
              exact TE.again (x := (k, want, b_)) (k + 1, kor .i64 (kand .i64 (w64 (want * 2 ^ 1)) 65535) 1, r1.1) ⟨by omega, hI.trans (by subst hr1 hr2; rw [hd]; exact cond_f h2 (cond_t h3 (cond_f h4 (cond_f h5 (rfl)))))⟩ (by show (hits.take (imin (hits.length : Int) 40).toNat).length - (k + 1) < (hits.take (imin (hits.length : Int) 40).toNat).length - k; omega) (by kernel_rfl) (.cons _ (.cons_cons _ (.slnil)))
        · refine TC.skip ?_
          refine TE.next ?_
          refine TC.seq ?_
          refine TC.region ?_
          refine TL.run 5 [1] [(3, .pointer (some ⟨b1, 0, none⟩)), (4, .int .i64 (kand .i64 (w64 (want * 2 ^ 1)) 65535)), (5, .int .i64 (k : Int)), (17, .slice A1 ((hits.take (imin (hits.length : Int) 40).toNat).length) (c_hits - 0)), (18, .int .i64 ((hits.take (imin (hits.length : Int) 40).toNat).length : Int)), (19, .int .i64 (k : Int)), (44, .bool (r1.1.Hits != (kand .i64 (w64 (want * 2 ^ 1)) 65535)))] rfl ⟨by kernel_rfl, by kernel_rfl⟩ ?_
          refine TL.join 44 (r1.1.Hits != (kand .i64 (w64 (want * 2 ^ 1)) 65535)) 12 [] [1] (fun β => [(3, .pointer (some ⟨b1, 0, none⟩)), (4, .int .i64 (kand .i64 (w64 (want * 2 ^ 1)) 65535)), (17, .slice A1 ((hits.take (imin (hits.length : Int) 40).toNat).length) (c_hits - 0)), (18, .int .i64 ((hits.take (imin (hits.length : Int) 40).toNat).length : Int)), (19, .int .i64 (k : Int)), (51, .bool (β || (r1.1.Scans != (imin (w64 ((k : Int) + 1)) 16))))]) (by kernel_rfl) rfl ⟨by kernel_rfl, by kernel_rfl⟩ ⟨by kernel_rfl, by kernel_rfl⟩ ?_
          refine TL.run 13 [] [(3, .pointer (some ⟨b1, 0, none⟩)), (4, .int .i64 (kand .i64 (w64 (want * 2 ^ 1)) 65535)), (17, .slice A1 ((hits.take (imin (hits.length : Int) 40).toNat).length) (c_hits - 0)), (18, .int .i64 ((hits.take (imin (hits.length : Int) 40).toNat).length : Int)), (19, .int .i64 (k : Int)), (52, .bool ((r1.1.Hits != (kand .i64 (w64 (want * 2 ^ 1)) 65535)) || (r1.1.Scans != (imin (w64 ((k : Int) + 1)) 16))))] rfl ⟨by kernel_rfl, by kernel_rfl⟩ ?_
          refine TL.split 52 ((r1.1.Hits != (kand .i64 (w64 (want * 2 ^ 1)) 65535)) || (r1.1.Scans != (imin (w64 ((k : Int) + 1)) 16))) (by kernel_rfl) (fun h6 => ?_) (fun h6 => ?_)
          · refine TL.run 17 [] [(3, .pointer (some ⟨b1, 0, none⟩)), (4, .int .i64 (kand .i64 (w64 (want * 2 ^ 1)) 65535)), (17, .slice A1 ((hits.take (imin (hits.length : Int) 40).toNat).length) (c_hits - 0)), (18, .int .i64 ((hits.take (imin (hits.length : Int) 40).toNat).length : Int)), (19, .int .i64 (k : Int)), (56, .bool true)] rfl ⟨by kernel_rfl, by kernel_rfl⟩ ?_
            refine TL.next rfl ?_
            refine TC.condT rfl (by kernel_rfl) ?_
            refine TC.seq ?_
            refine TC.region ?_
            refine TL.run 1 [] [(2, .bool false)] rfl ⟨by kernel_rfl, by kernel_rfl⟩ ?_
            refine TL.next rfl ?_
            refine TC.ret ?_
            refine TE.ret_block (TE.ret_then (TE.ret_then (TE.ret_block (TE.ret_then (TE.ret_then ?_)))))
            have e : skywaykeep2_BeginRemembers hits = false := by subst hr1; unfold skywaykeep2_BeginRemembers; exact elim_r (hR.symm.trans (hI.trans (by rw [hd]; exact cond_f h2 (cond_f h3 (cond_t h6 (rfl)))))) rfl
            exact TE.ret [] (.bool false) ⟨by kernel_rfl, by kernel_rfl⟩ (by rw [e]; first | done | kernel_rfl)
          · refine TL.run 14 [1] [(3, .pointer (some ⟨b1, 0, none⟩)), (4, .int .i64 (kand .i64 (w64 (want * 2 ^ 1)) 65535)), (17, .slice A1 ((hits.take (imin (hits.length : Int) 40).toNat).length) (c_hits - 0)), (18, .int .i64 ((hits.take (imin (hits.length : Int) 40).toNat).length : Int)), (19, .int .i64 (k : Int)), (52, .bool false), (53, BeginState.v r1.1)] rfl ⟨by kernel_rfl, by kernel_rfl⟩ ?_
            refine TL.call (some 54) [(3, .pointer (some ⟨b1, 0, none⟩)), (4, .int .i64 (kand .i64 (w64 (want * 2 ^ 1)) 65535)), (17, .slice A1 ((hits.take (imin (hits.length : Int) 40).toNat).length) (c_hits - 0)), (18, .int .i64 ((hits.take (imin (hits.length : Int) 40).toNat).length : Int)), (19, .int .i64 (k : Int)), (52, .bool false), (54, .int .i64 (begin_Check r1.1))] (fun w _ => begin_Check_w r1.1 w) (by kernel_rfl) (by kernel_rfl) ?_
            generalize hr3 : begin_Check r1.1 = r3
            refine TL.run 17 [] [(3, .pointer (some ⟨b1, 0, none⟩)), (4, .int .i64 (kand .i64 (w64 (want * 2 ^ 1)) 65535)), (17, .slice A1 ((hits.take (imin (hits.length : Int) 40).toNat).length) (c_hits - 0)), (18, .int .i64 ((hits.take (imin (hits.length : Int) 40).toNat).length : Int)), (19, .int .i64 (k : Int)), (56, .bool (r3 != 0))] rfl ⟨by kernel_rfl, by kernel_rfl⟩ ?_
            refine TL.next rfl ?_
            refine TC.cond (r3 != 0) rfl (by kernel_rfl) (fun h7 => ?_) (fun h7 => ?_)
            · refine TC.seq ?_
              refine TC.region ?_
              refine TL.run 1 [] [(2, .bool false)] rfl ⟨by kernel_rfl, by kernel_rfl⟩ ?_
              refine TL.next rfl ?_
              refine TC.ret ?_
              refine TE.ret_block (TE.ret_then (TE.ret_then (TE.ret_block (TE.ret_then (TE.ret_then ?_)))))
              have e : skywaykeep2_BeginRemembers hits = false := by subst hr1 hr3; unfold skywaykeep2_BeginRemembers; exact elim_r (hR.symm.trans (hI.trans (by rw [hd]; exact cond_f h2 (cond_f h3 (cond_f h6 (cond_t h7 (rfl))))))) rfl
              exact TE.ret [] (.bool false) ⟨by kernel_rfl, by kernel_rfl⟩ (by rw [e]; first | done | kernel_rfl)
            · refine TC.skip ?_
              refine TE.normal_block ?_
              refine TE.next ?_
              refine TC.region ?_
              refine TL.run 2 [] [(3, .pointer (some ⟨b1, 0, none⟩)), (4, .int .i64 (kand .i64 (w64 (want * 2 ^ 1)) 65535)), (17, .slice A1 ((hits.take (imin (hits.length : Int) 40).toNat).length) (c_hits - 0)), (18, .int .i64 ((hits.take (imin (hits.length : Int) 40).toNat).length : Int)), (19, .int .i64 (w64 ((k : Int) + 1)))] rfl ⟨by kernel_rfl, by kernel_rfl⟩ ?_
              refine TL.done rfl ?_
              refine TE.rw 19 (.int .i64 (w64 ((k : Int) + 1))) (.int .i64 ((k + 1 : Nat) : Int)) (by kernel_rfl) (w64_cast k (by omega)) ?_
              exact TE.again (x := (k, want, b_)) (k + 1, kand .i64 (w64 (want * 2 ^ 1)) 65535, r1.1) ⟨by omega, hI.trans (by subst hr1 hr3; rw [hd]; exact cond_f h2 (cond_f h3 (cond_f h6 (cond_f h7 (rfl)))))⟩ (by show (hits.take (imin (hits.length : Int) 40).toNat).length - (k + 1) < (hits.take (imin (hits.length : Int) 40).toNat).length - k; omega) (by kernel_rfl) (.cons _ (.cons_cons _ (.slnil)))
    · have hd : (hits.take (imin (hits.length : Int) 40).toNat).drop k = [] := List.drop_eq_nil_of_le (by have := of_decide_eq_false h1; first | omega | (simp at this; omega))
      refine TC.exit ?_
      refine TE.exit_then (TE.exit_then (TE.exit_same ?_))
      exact TE.cut b_ (hI.trans (by rw [hd]; exact rfl)) (by kernel_rfl) (.cons _ (.slnil))
  · rintro b__2 hJ
    refine TE.next ?_
    refine TC.seq ?_
    refine TC.region ?_
    refine TL.run 1 [] [(59, BeginState.v BeginState.zero)] rfl ⟨by kernel_rfl, by kernel_rfl⟩ ?_
    refine TL.call (some 60) [(60, .tuple #[BeginState.v ((begin_Step BeginState.zero true 16 16).1), .int .i64 ((begin_Step BeginState.zero true 16 16).2.1), .int .i64 ((begin_Step BeginState.zero true 16 16).2.2)])] (fun w _ => begin_Step_w BeginState.zero true 16 16 w) (by kernel_rfl) (by kernel_rfl) ?_
    generalize hr4 : begin_Step BeginState.zero true 16 16 = r4
    refine TL.run 6 [] [(61, BeginState.v r4.1), (62, .int .i64 r4.2.1), (63, .int .i64 r4.2.2)] rfl ⟨by kernel_rfl, by kernel_rfl⟩ ?_
    refine TL.write 0 (fun b3 => [(10, .pointer (some ⟨b3, 0, none⟩)), (61, BeginState.v r4.1), (62, .int .i64 r4.2.1), (63, .int .i64 r4.2.2)]) (fun b3 => [.inl (b3, .cells (BeginState.c BeginState.zero) 62 (0, 0))]) (fun b3 => ⟨by kernel_rfl, by kernel_rfl⟩) (fun b3 => ?_)
    refine TL.write 0 (fun _ => [(10, .pointer (some ⟨b3, 0, none⟩)), (62, .int .i64 r4.2.1), (63, .int .i64 r4.2.2)]) (fun _ => [.inl (b3, .cells (BeginState.c r4.1) 62 (0, 0))]) (fun _ => ⟨by kernel_rfl, by kernel_rfl⟩) (fun _ => ?_)
    refine TL.run 10 [] [(10, .pointer (some ⟨b3, 0, none⟩)), (12, .int .i64 r4.2.2)] rfl ⟨by kernel_rfl, by kernel_rfl⟩ ?_
    refine TL.next rfl ?_
    refine TC.seq ?_
    refine TC.region ?_
    refine TL.run 3 [] [(10, .pointer (some ⟨b3, 0, none⟩)), (66, .bool (r4.2.2 == 0))] rfl ⟨by kernel_rfl, by kernel_rfl⟩ ?_
    refine TL.join 66 (r4.2.2 == 0) 7 [0] [] (fun β => [(10, .pointer (some ⟨b3, 0, none⟩)), (70, .bool (β && (r4.1.Hits == 1)))]) (by kernel_rfl) rfl ⟨by kernel_rfl, by kernel_rfl⟩ ⟨by kernel_rfl, by kernel_rfl⟩ ?_
    refine TL.run 8 [] [(10, .pointer (some ⟨b3, 0, none⟩)), (71, .bool ((r4.2.2 == 0) && (r4.1.Hits == 1)))] rfl ⟨by kernel_rfl, by kernel_rfl⟩ ?_
    refine TL.join 71 ((r4.2.2 == 0) && (r4.1.Hits == 1)) 12 [0] [] (fun β => [(75, .bool (β && (r4.1.Scans == 1)))]) (by kernel_rfl) rfl ⟨by kernel_rfl, by kernel_rfl⟩ ⟨by kernel_rfl, by kernel_rfl⟩ ?_
    refine TL.run 13 [] [(2, .bool (((r4.2.2 == 0) && (r4.1.Hits == 1)) && (r4.1.Scans == 1)))] rfl ⟨by kernel_rfl, by kernel_rfl⟩ ?_
    refine TL.next rfl ?_
    refine TC.ret ?_
    have e : skywaykeep2_BeginRemembers hits = (((r4.2.2 == 0) && (r4.1.Hits == 1)) && (r4.1.Scans == 1)) := by subst hr4; unfold skywaykeep2_BeginRemembers; exact elim_l (hR.symm.trans hJ) (rfl)
    exact TE.ret [] (.bool (((r4.2.2 == 0) && (r4.1.Hits == 1)) && (r4.1.Scans == 1))) ⟨by kernel_rfl, by kernel_rfl⟩ (by rw [e]; first | done | kernel_rfl)

end Go.Sky
