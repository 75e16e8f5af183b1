/- Functions of the program, each with the Lean function that it computes. Conditions: none. -/
import Derived.Test.YtjopamopbpggiaaFh
import Derived.Test.YtjopamopbpggiaaPass
namespace Go.Sky
open Go Go.Eng Go.Proofs
def skywaylaw1_bitsWorks : Bool :=
  let r1 := bits_FromFixed 3 1
  let r2 := bits_ToFixed 13832806255468478464 0
  ((((r1.2 == 0) && (r1.1 == 4609434218613702656)) && (r2.2.2 == 0)) && (r2.1 == (-2))) && (!r2.2.1)

set_option maxRecDepth 100000 in
theorem skywaylaw1_bitsWorks_w (w : World) : Calls Try.prog 4 #[] w (Ret w (.bool (skywaylaw1_bitsWorks))) := by
  refine calls_intro (vs := []) (w := w) Try.func4 rfl Try.ntmps4 rfl ?_
  refine TC.weak [] (by kernel_rfl) ?_
  refine TC.seq ?_
  refine TC.region ?_
  refine TL.run 1 [] [] rfl ⟨by kernel_rfl, by kernel_rfl⟩ ?_
  refine TL.next rfl ?_
  refine TC.seq ?_
  refine TC.region ?_
  refine TL.call (some 7) [(7, .tuple #[.int .u64 ((bits_FromFixed 3 1).1), .int .i64 ((bits_FromFixed 3 1).2)])] (fun w _ => bits_FromFixed_w 3 1 w) (by kernel_rfl) (by kernel_rfl) ?_
  generalize hr1 : bits_FromFixed 3 1 = r1
  refine TL.run 6 [] [(1, .int .u64 r1.1), (2, .int .i64 r1.2)] rfl ⟨by kernel_rfl, by kernel_rfl⟩ ?_
  refine TL.next rfl ?_
  refine TC.seq ?_
  refine TC.region ?_
  refine TL.call (some 11) [(1, .int .u64 r1.1), (2, .int .i64 r1.2), (11, .tuple #[.int .i64 ((bits_ToFixed 13832806255468478464 0).1), .bool ((bits_ToFixed 13832806255468478464 0).2.1), .int .i64 ((bits_ToFixed 13832806255468478464 0).2.2)])] (fun w _ => bits_ToFixed_w 13832806255468478464 0 w) (by kernel_rfl) (by kernel_rfl) ?_
  generalize hr2 : bits_ToFixed 13832806255468478464 0 = r2
  refine TL.run 8 [] [(1, .int .u64 r1.1), (2, .int .i64 r1.2), (3, .int .i64 r2.1), (4, .bool r2.2.1), (5, .int .i64 r2.2.2)] rfl ⟨by kernel_rfl, by kernel_rfl⟩ ?_
  refine TL.next rfl ?_
  refine TC.seq ?_
  refine TC.region ?_
  refine TL.run 3 [] [(1, .int .u64 r1.1), (3, .int .i64 r2.1), (4, .bool r2.2.1), (5, .int .i64 r2.2.2), (17, .bool (r1.2 == 0))] rfl ⟨by kernel_rfl, by kernel_rfl⟩ ?_
  refine TL.join 17 (r1.2 == 0) 6 [] [] (fun β => [(3, .int .i64 r2.1), (4, .bool r2.2.1), (5, .int .i64 r2.2.2), (20, .bool (β && (r1.1 == 4609434218613702656)))]) (by kernel_rfl) rfl ⟨by kernel_rfl, by kernel_rfl⟩ ⟨by kernel_rfl, by kernel_rfl⟩ ?_
  refine TL.run 7 [] [(3, .int .i64 r2.1), (4, .bool r2.2.1), (5, .int .i64 r2.2.2), (21, .bool ((r1.2 == 0) && (r1.1 == 4609434218613702656)))] rfl ⟨by kernel_rfl, by kernel_rfl⟩ ?_
  refine TL.join 21 ((r1.2 == 0) && (r1.1 == 4609434218613702656)) 10 [] [] (fun β => [(3, .int .i64 r2.1), (4, .bool r2.2.1), (24, .bool (β && (r2.2.2 == 0)))]) (by kernel_rfl) rfl ⟨by kernel_rfl, by kernel_rfl⟩ ⟨by kernel_rfl, by kernel_rfl⟩ ?_
  refine TL.run 11 [] [(3, .int .i64 r2.1), (4, .bool r2.2.1), (25, .bool (((r1.2 == 0) && (r1.1 == 4609434218613702656)) && (r2.2.2 == 0)))] rfl ⟨by kernel_rfl, by kernel_rfl⟩ ?_
  refine TL.join 25 (((r1.2 == 0) && (r1.1 == 4609434218613702656)) && (r2.2.2 == 0)) 14 [] [] (fun β => [(4, .bool r2.2.1), (28, .bool (β && (r2.1 == (-2))))]) (by kernel_rfl) rfl ⟨by kernel_rfl, by kernel_rfl⟩ ⟨by kernel_rfl, by kernel_rfl⟩ ?_
  refine TL.run 15 [] [(4, .bool r2.2.1), (29, .bool ((((r1.2 == 0) && (r1.1 == 4609434218613702656)) && (r2.2.2 == 0)) && (r2.1 == (-2))))] rfl ⟨by kernel_rfl, by kernel_rfl⟩ ?_
  refine TL.join 29 ((((r1.2 == 0) && (r1.1 == 4609434218613702656)) && (r2.2.2 == 0)) && (r2.1 == (-2))) 18 [] [] (fun β => [(32, .bool (β && (!r2.2.1)))]) (by kernel_rfl) rfl ⟨by kernel_rfl, by kernel_rfl⟩ ⟨by kernel_rfl, by kernel_rfl⟩ ?_
  refine TL.run 19 [] [(0, .bool (((((r1.2 == 0) && (r1.1 == 4609434218613702656)) && (r2.2.2 == 0)) && (r2.1 == (-2))) && (!r2.2.1)))] rfl ⟨by kernel_rfl, by kernel_rfl⟩ ?_
  refine TL.next rfl ?_
  refine TC.ret ?_
  have e : skywaylaw1_bitsWorks = (((((r1.2 == 0) && (r1.1 == 4609434218613702656)) && (r2.2.2 == 0)) && (r2.1 == (-2))) && (!r2.2.1)) := by subst hr1 hr2; unfold skywaylaw1_bitsWorks; exact rfl
  exact TE.ret [] (.bool (((((r1.2 == 0) && (r1.1 == 4609434218613702656)) && (r2.2.2 == 0)) && (r2.1 == (-2))) && (!r2.2.1))) ⟨by kernel_rfl, by kernel_rfl⟩ (by rw [e]; first | done | kernel_rfl)

def skywaylaw1_BitsNearest (n : Int) (scale : Int) : Bool :=
  let r1 := skywaylaw1_bitsWorks
  cond (!r1) (
    false) (
    let r2 := bits_FromFixed n scale
    cond ((decide (scale < 0)) || (decide (scale > 60))) (
      (r2.2 == 4) && (r2.1 == 0)) (
      cond (r2.2 == 0) (
        let r3 := ((dblW n (scale : Int).toNat : Nat) : Int)
        r2.1 == r3) (
        false)))

set_option maxRecDepth 100000 in
theorem skywaylaw1_BitsNearest_w (n : Int) (scale : Int) (w : World) (hn : -9223372036854775808 ≤ n ∧ n ≤ 9223372036854775807) : Calls Try.prog 3 #[.int .i64 n, .int .i64 scale] w (Ret w (.bool (skywaylaw1_BitsNearest n scale))) := by
  refine calls_intro (vs := [.int .i64 n, .int .i64 scale]) (w := w) Try.func3 rfl Try.ntmps3 rfl ?_
  refine TC.weak [(0, .int .i64 n), (1, .int .i64 scale)] (by kernel_rfl) ?_
  refine TC.seq ?_
  refine TC.region ?_
  refine TL.run 1 [] [(0, .int .i64 n), (1, .int .i64 scale)] rfl ⟨by kernel_rfl, by kernel_rfl⟩ ?_
  refine TL.next rfl ?_
  refine TC.seq ?_
  refine TC.seq ?_
  refine TC.region ?_
  refine TL.call (some 7) [(0, .int .i64 n), (1, .int .i64 scale), (7, .bool ((skywaylaw1_bitsWorks)))] (fun w _ => skywaylaw1_bitsWorks_w w) (by kernel_rfl) (by kernel_rfl) ?_
  generalize hr1 : skywaylaw1_bitsWorks = r1
  refine TL.run 2 [] [(0, .int .i64 n), (1, .int .i64 scale), (8, .bool (!r1))] rfl ⟨by kernel_rfl, by kernel_rfl⟩ ?_
  refine TL.next rfl ?_
  refine TC.cond (!r1) rfl (by kernel_rfl) (fun h1 => ?_) (fun h1 => ?_)
  · refine TC.seq ?_
    refine TC.region ?_
    refine TL.run 1 [] [(4, .bool false)] rfl ⟨by kernel_rfl, by kernel_rfl⟩ ?_
    refine TL.next rfl ?_
    refine TC.ret ?_
    refine TE.ret_then ?_
    have e : skywaylaw1_BitsNearest n scale = false := by subst hr1; unfold skywaylaw1_BitsNearest; exact cond_t h1 (rfl)
    exact TE.ret [] (.bool false) ⟨by kernel_rfl, by kernel_rfl⟩ (by rw [e]; first | done | kernel_rfl)
  · refine TC.skip ?_
    refine TE.next ?_
    refine TC.seq ?_
    refine TC.region ?_
    refine TL.run 2 [] [(0, .int .i64 n), (1, .int .i64 scale), (10, .int .i64 n), (11, .int .i64 scale)] rfl ⟨by kernel_rfl, by kernel_rfl⟩ ?_
    refine TL.call (some 12) [(0, .int .i64 n), (1, .int .i64 scale), (12, .tuple #[.int .u64 ((bits_FromFixed n scale).1), .int .i64 ((bits_FromFixed n scale).2)])] (fun w _ => bits_FromFixed_w n scale w) (by kernel_rfl) (by kernel_rfl) ?_
    generalize hr2 : bits_FromFixed n scale = r2
    refine TL.run 8 [] [(0, .int .i64 n), (1, .int .i64 scale), (5, .int .u64 r2.1), (6, .int .i64 r2.2)] rfl ⟨by kernel_rfl, by kernel_rfl⟩ ?_
    refine TL.next rfl ?_
    refine TC.seq ?_
    refine TC.seq ?_
    refine TC.region ?_
    refine TL.run 3 [] [(0, .int .i64 n), (1, .int .i64 scale), (5, .int .u64 r2.1), (6, .int .i64 r2.2), (17, .bool (decide (scale < 0)))] rfl ⟨by kernel_rfl, by kernel_rfl⟩ ?_
    refine TL.join 17 (decide (scale < 0)) 6 [] [] (fun β => [(0, .int .i64 n), (1, .int .i64 scale), (5, .int .u64 r2.1), (6, .int .i64 r2.2), (20, .bool (β || (decide (scale > 60))))]) (by kernel_rfl) rfl ⟨by kernel_rfl, by kernel_rfl⟩ ⟨by kernel_rfl, by kernel_rfl⟩ ?_
    refine TL.next rfl ?_
    refine TC.cond ((decide (scale < 0)) || (decide (scale > 60))) rfl (by kernel_rfl) (fun h2 => ?_) (fun h2 => ?_)
    · refine TC.seq ?_
      refine TC.region ?_
      refine TL.run 3 [] [(5, .int .u64 r2.1), (23, .bool (r2.2 == 4))] rfl ⟨by kernel_rfl, by kernel_rfl⟩ ?_
      refine TL.join 23 (r2.2 == 4) 6 [] [] (fun β => [(26, .bool (β && (r2.1 == 0)))]) (by kernel_rfl) rfl ⟨by kernel_rfl, by kernel_rfl⟩ ⟨by kernel_rfl, by kernel_rfl⟩ ?_
      refine TL.run 7 [] [(4, .bool ((r2.2 == 4) && (r2.1 == 0)))] rfl ⟨by kernel_rfl, by kernel_rfl⟩ ?_
      refine TL.next rfl ?_
      refine TC.ret ?_
      refine TE.ret_then ?_
      have e : skywaylaw1_BitsNearest n scale = ((r2.2 == 4) && (r2.1 == 0)) := by subst hr1 hr2; unfold skywaylaw1_BitsNearest; exact cond_f h1 (cond_t h2 (rfl))
      exact TE.ret [] (.bool ((r2.2 == 4) && (r2.1 == 0))) ⟨by kernel_rfl, by kernel_rfl⟩ (by rw [e]; first | done | kernel_rfl)
    · refine TC.skip ?_
      refine TE.next ?_
      refine TC.seq ?_
      refine TC.region ?_
      refine TL.run 3 [] [(0, .int .i64 n), (1, .int .i64 scale), (5, .int .u64 r2.1), (29, .bool (r2.2 == 0))] rfl ⟨by kernel_rfl, by kernel_rfl⟩ ?_
      refine TL.split 29 (r2.2 == 0) (by kernel_rfl) (fun h3 => ?_) (fun h3 => ?_)
      · refine TL.run 6 [] [(29, .bool true), (30, .int .u64 r2.1), (31, .int .i64 n), (32, .int .i64 scale)] rfl ⟨by kernel_rfl, by kernel_rfl⟩ ?_
        refine TL.callM (Γ := Int) (fun g => .int .u64 g) (fun g => [.inr (Fact (g = ((dblW n (scale : Int).toNat : Nat) : Int)))]) [] [] (some 33) (fun g => [(29, .bool true), (30, .int .u64 r2.1), (33, .int .u64 g)]) (fun w hM => rdouble_w n scale w hM.pass (by have q0_ := (dec_f (or_f1 h2)); have q1_ := (dec_f (or_f2 h2)); have q2_ := (beq_t h3); first | omega | (simp only [w64_eq]; omega) | (simp <;> omega)) (by have q0_ := (dec_f (or_f1 h2)); have q1_ := (dec_f (or_f2 h2)); have q2_ := (beq_t h3); first | omega | (simp only [w64_eq]; omega) | (simp <;> omega))) (by kernel_rfl) (fun g => by kernel_rfl) ?_
        rintro r3
        refine TL.conv [.inr (Fact (r3 = ((dblW n (scale : Int).toNat : Nat) : Int)))] (fun _ hM => hM) ?_
        refine TL.know (fun w hM => hM.fact_at 0 rfl) (fun hp_rdouble => ?_)
        refine TL.forget [] (.cons _ (List.Sublist.refl _)) ?_
        have hr3 : ((dblW n (scale : Int).toNat : Nat) : Int) = r3 := (hp_rdouble).symm
        refine TL.run 10 [] [(4, .bool (r2.1 == r3))] rfl ⟨by kernel_rfl, by kernel_rfl⟩ ?_
        refine TL.next rfl ?_
        refine TC.ret ?_
        have e : skywaylaw1_BitsNearest n scale = (r2.1 == r3) := by subst hr1 hr2 hr3; unfold skywaylaw1_BitsNearest; exact cond_f h1 (cond_f h2 (cond_t h3 (rfl)))
        exact TE.ret [] (.bool (r2.1 == r3)) ⟨by kernel_rfl, by kernel_rfl⟩ (by rw [e]; first | done | kernel_rfl)
      · refine TL.run 10 [] [(4, .bool false)] rfl ⟨by kernel_rfl, by kernel_rfl⟩ ?_
        refine TL.next rfl ?_
        refine TC.ret ?_
        have e : skywaylaw1_BitsNearest n scale = false := by subst hr1 hr2; unfold skywaylaw1_BitsNearest; exact cond_f h1 (cond_f h2 (cond_f h3 (rfl)))
        exact TE.ret [] (.bool false) ⟨by kernel_rfl, by kernel_rfl⟩ (by rw [e]; first | done | kernel_rfl)

end Go.Sky
