/- Functions of the program, each with the Lean function that it computes. Conditions: none. -/
import Derived.Test.YtjopamopbpggiaaRows
import Derived.Test.YtjopamopbpggiaaEqb
import Derived.Test.YtjopamopbpggiaaFct
import Derived.Test.YtjopamopbpggiaaFacts
import Derived.Test.YtjopamopbpggiaaStrs
import Derived.Test.YtjopamopbpggiaaFltB
namespace Go.Sky
open Go Go.Eng Go.Proofs
def math_Abs (x : Nat) : Nat :=
  (kandnot .u64 (x : Int) 9223372036854775808).toNat

set_option maxRecDepth 100000 in
theorem math_Abs_w (x : Nat) (w : World) : Calls Try.prog 21 #[.float .f64 x] w (Ret w (.float .f64 (math_Abs x))) := by
  refine calls_intro (vs := [.float .f64 x]) (w := w) Try.func21 rfl Try.ntmps21 rfl ?_
  refine TC.weak [(0, .float .f64 x)] (by kernel_rfl) ?_
  refine TC.seq ?_
  refine TC.region ?_
  refine TL.run 1 [] [(0, .float .f64 x)] rfl ⟨by kernel_rfl, by kernel_rfl⟩ ?_
  refine TL.next rfl ?_
  refine TC.seq ?_
  refine TC.region ?_
  refine TL.run 1 [] [(3, .float .f64 x)] rfl ⟨by kernel_rfl, by kernel_rfl⟩ ?_
  refine TL.val (callFunc 8 #[.float .f64 x]) (some 4) (.int .u64 (x : Int)) [(4, .int .u64 (x : Int))] (fun w hM => run_f64bits Try.func8 (by kernel_rfl) (by kernel_rfl) (by kernel_rfl) (by kernel_rfl)) (by kernel_rfl) (by kernel_rfl) ?_
  refine TL.run 3 [] [(5, .int .u64 (kandnot .u64 (x : Int) 9223372036854775808))] rfl ⟨by kernel_rfl, by kernel_rfl⟩ ?_
  refine TL.val (callFunc 20 #[.int .u64 (kandnot .u64 (x : Int) 9223372036854775808)]) (some 6) (.float .f64 ((kandnot .u64 (x : Int) 9223372036854775808).toNat)) [(6, .float .f64 ((kandnot .u64 (x : Int) 9223372036854775808).toNat))] (fun w hM => run_f64frombits Try.func20 (by kernel_rfl) (by kernel_rfl) (by kernel_rfl) (by kernel_rfl)) (by kernel_rfl) (by kernel_rfl) ?_
  refine TL.run 5 [] [(2, .float .f64 ((kandnot .u64 (x : Int) 9223372036854775808).toNat))] rfl ⟨by kernel_rfl, by kernel_rfl⟩ ?_
  refine TL.next rfl ?_
  refine TC.ret ?_
  have e : math_Abs x = ((kandnot .u64 (x : Int) 9223372036854775808).toNat) := by unfold math_Abs; exact rfl
  exact TE.ret [] (.float .f64 ((kandnot .u64 (x : Int) 9223372036854775808).toNat)) ⟨by kernel_rfl, by kernel_rfl⟩ (by rw [e]; first | done | kernel_rfl)

def math_IsInf (f : Nat) (sign : Int) : Bool :=
  cond (sign == 0) (
    let r1 := math_Abs f
    fgt r1 9218868437227405311) (
    false)

set_option maxRecDepth 100000 in
theorem math_IsInf_w (f : Nat) (sign : Int) (w : World) (hs : sign = 0) : Calls Try.prog 15 #[.float .f64 f, .int .i64 sign] w (Ret w (.bool (math_IsInf f sign))) := by
  refine calls_intro (vs := [.float .f64 f, .int .i64 sign]) (w := w) Try.func15 rfl Try.ntmps15 rfl ?_
  refine TC.weak [(0, .float .f64 f), (1, .int .i64 sign)] (by kernel_rfl) ?_
  refine TC.seq ?_
  refine TC.region ?_
  refine TL.run 1 [] [(0, .float .f64 f), (1, .int .i64 sign)] rfl ⟨by kernel_rfl, by kernel_rfl⟩ ?_
  refine TL.next rfl ?_
  refine TC.seq ?_
  refine TC.seq ?_
  refine TC.region ?_
  refine TL.run 2 [] [(0, .float .f64 f), (1, .int .i64 sign), (6, .bool (sign == 0))] rfl ⟨by kernel_rfl, by kernel_rfl⟩ ?_
  refine TL.next rfl ?_
  refine TC.cond (sign == 0) rfl (by kernel_rfl) (fun h1 => ?_) (fun h1 => ?_)
  · refine TC.region ?_
    refine TL.run 1 [] [(7, .float .f64 f)] rfl ⟨by kernel_rfl, by kernel_rfl⟩ ?_
    refine TL.call (some 8) [(8, .float .f64 (math_Abs f))] (fun w _ => math_Abs_w f w) (by kernel_rfl) (by kernel_rfl) ?_
    generalize hr1 : math_Abs f = r1
    refine TL.run 3 [] [(0, .float .f64 r1)] rfl ⟨by kernel_rfl, by kernel_rfl⟩ ?_
    refine TL.next rfl ?_
    refine TC.seq ?_
    refine TC.region ?_
    refine TL.run 3 [] [(4, .bool (fgt r1 9218868437227405311))] rfl ⟨by kernel_rfl, by kernel_rfl⟩ ?_
    refine TL.next rfl ?_
    refine TC.ret ?_
    have e : math_IsInf f sign = (fgt r1 9218868437227405311) := by subst hr1; unfold math_IsInf; exact cond_t h1 (rfl)
    exact TE.ret [] (.bool (fgt r1 9218868437227405311)) ⟨by kernel_rfl, by kernel_rfl⟩ (by rw [e]; first | done | kernel_rfl)
  · exact ((by subst hs; cases h1) : False).elim

def math_IsNaN (f : Nat) : Bool :=
  fne f f

set_option maxRecDepth 100000 in
theorem math_IsNaN_w (f : Nat) (w : World) : Calls Try.prog 16 #[.float .f64 f] w (Ret w (.bool (math_IsNaN f))) := by
  refine calls_intro (vs := [.float .f64 f]) (w := w) Try.func16 rfl Try.ntmps16 rfl ?_
  refine TC.weak [(0, .float .f64 f)] (by kernel_rfl) ?_
  refine TC.seq ?_
  refine TC.region ?_
  refine TL.run 1 [] [(0, .float .f64 f)] rfl ⟨by kernel_rfl, by kernel_rfl⟩ ?_
  refine TL.next rfl ?_
  refine TC.seq ?_
  refine TC.region ?_
  refine TL.run 4 [] [(2, .bool (fne f f))] rfl ⟨by kernel_rfl, by kernel_rfl⟩ ?_
  refine TL.next rfl ?_
  refine TC.ret ?_
  have e : math_IsNaN f = (fne f f) := by unfold math_IsNaN; exact rfl
  exact TE.ret [] (.bool (fne f f)) ⟨by kernel_rfl, by kernel_rfl⟩ (by rw [e]; first | done | kernel_rfl)

def math_normalize (x : Nat) : Nat × Int :=
  let r1 := math_Abs x
  cond (flt r1 4503599627370496) (
    (fmul x 4841369599423283200, (-52))) (
    (x, 0))

set_option maxRecDepth 100000 in
theorem math_normalize_w (x : Nat) (w : World) (hx : x < 18446744073709551616) : Calls Try.prog 17 #[.float .f64 x] w (Ret w (.tuple #[.float .f64 ((math_normalize x).1), .int .i64 ((math_normalize x).2)])) := by
  refine calls_intro (vs := [.float .f64 x]) (w := w) Try.func17 rfl Try.ntmps17 rfl ?_
  refine TC.weak [(0, .float .f64 x)] (by kernel_rfl) ?_
  refine TC.seq ?_
  refine TC.region ?_
  refine TL.run 2 [] [(0, .float .f64 x)] rfl ⟨by kernel_rfl, by kernel_rfl⟩ ?_
  refine TL.next rfl ?_
  refine TC.seq ?_
  refine TC.seq ?_
  refine TC.region ?_
  refine TL.run 1 [] [(0, .float .f64 x), (4, .float .f64 x)] rfl ⟨by kernel_rfl, by kernel_rfl⟩ ?_
  refine TL.call (some 5) [(0, .float .f64 x), (5, .float .f64 (math_Abs x))] (fun w _ => math_Abs_w x w) (by kernel_rfl) (by kernel_rfl) ?_
  generalize hr1 : math_Abs x = r1
  refine TL.run 3 [] [(0, .float .f64 x), (6, .bool (flt r1 4503599627370496))] rfl ⟨by kernel_rfl, by kernel_rfl⟩ ?_
  refine TL.next rfl ?_
  refine TC.cond (flt r1 4503599627370496) rfl (by kernel_rfl) (fun h1 => ?_) (fun h1 => ?_)
  · refine TC.seq ?_
    refine TC.region ?_
    refine TL.run 1 [] [(7, .float .f64 x)] rfl ⟨by kernel_rfl, by kernel_rfl⟩ ?_
    refine TL.val (sV (binOp .mul 32 (.float .f64 x) (.float .f64 4841369599423283200))) (some 8) (.float .f64 (fmul x 4841369599423283200)) [(8, .float .f64 (fmul x 4841369599423283200))] (fun w hM => run_fmul (by subst hr1; exact norm_some hx h1)) (by kernel_rfl) (by kernel_rfl) ?_
    refine TL.run 4 [] [(2, .float .f64 (fmul x 4841369599423283200)), (3, .int .i64 (-52))] rfl ⟨by kernel_rfl, by kernel_rfl⟩ ?_
    refine TL.next rfl ?_
    refine TC.ret ?_
    refine TE.ret_then ?_
    have e : math_normalize x = (fmul x 4841369599423283200, (-52)) := by subst hr1; unfold math_normalize; exact cond_t h1 (rfl)
    exact TE.ret [] (.tuple #[.float .f64 (fmul x 4841369599423283200), .int .i64 (-52)]) ⟨by kernel_rfl, by kernel_rfl⟩ (by rw [e]; first | done | kernel_rfl)
  · refine TC.skip ?_
    refine TE.next ?_
    refine TC.seq ?_
    refine TC.region ?_
    refine TL.run 3 [] [(2, .float .f64 x), (3, .int .i64 0)] rfl ⟨by kernel_rfl, by kernel_rfl⟩ ?_
    refine TL.next rfl ?_
    refine TC.ret ?_
    have e : math_normalize x = (x, 0) := by subst hr1; unfold math_normalize; exact cond_f h1 (rfl)
    exact TE.ret [] (.tuple #[.float .f64 x, .int .i64 0]) ⟨by kernel_rfl, by kernel_rfl⟩ (by rw [e]; first | done | kernel_rfl)

def math_Copysign (f : Nat) (sign : Nat) : Nat :=
  (kor .u64 (kandnot .u64 (f : Int) 9223372036854775808) (kand .u64 (sign : Int) 9223372036854775808)).toNat

set_option maxRecDepth 100000 in
theorem math_Copysign_w (f : Nat) (sign : Nat) (w : World) : Calls Try.prog 18 #[.float .f64 f, .float .f64 sign] w (Ret w (.float .f64 (math_Copysign f sign))) := by
  refine calls_intro (vs := [.float .f64 f, .float .f64 sign]) (w := w) Try.func18 rfl Try.ntmps18 rfl ?_
  refine TC.weak [(0, .float .f64 f), (1, .float .f64 sign)] (by kernel_rfl) ?_
  refine TC.seq ?_
  refine TC.region ?_
  refine TL.run 1 [] [(0, .float .f64 f), (1, .float .f64 sign)] rfl ⟨by kernel_rfl, by kernel_rfl⟩ ?_
  refine TL.next rfl ?_
  refine TC.seq ?_
  refine TC.region ?_
  refine TL.run 1 [] [(1, .float .f64 sign), (5, .float .f64 f)] rfl ⟨by kernel_rfl, by kernel_rfl⟩ ?_
  refine TL.val (callFunc 8 #[.float .f64 f]) (some 6) (.int .u64 (f : Int)) [(1, .float .f64 sign), (6, .int .u64 (f : Int))] (fun w hM => run_f64bits Try.func8 (by kernel_rfl) (by kernel_rfl) (by kernel_rfl) (by kernel_rfl)) (by kernel_rfl) (by kernel_rfl) ?_
  refine TL.run 4 [] [(7, .int .u64 (kandnot .u64 (f : Int) 9223372036854775808)), (8, .float .f64 sign)] rfl ⟨by kernel_rfl, by kernel_rfl⟩ ?_
  refine TL.val (callFunc 8 #[.float .f64 sign]) (some 9) (.int .u64 (sign : Int)) [(7, .int .u64 (kandnot .u64 (f : Int) 9223372036854775808)), (9, .int .u64 (sign : Int))] (fun w hM => run_f64bits Try.func8 (by kernel_rfl) (by kernel_rfl) (by kernel_rfl) (by kernel_rfl)) (by kernel_rfl) (by kernel_rfl) ?_
  refine TL.run 7 [] [(11, .int .u64 (kor .u64 (kandnot .u64 (f : Int) 9223372036854775808) (kand .u64 (sign : Int) 9223372036854775808)))] rfl ⟨by kernel_rfl, by kernel_rfl⟩ ?_
  refine TL.val (callFunc 20 #[.int .u64 (kor .u64 (kandnot .u64 (f : Int) 9223372036854775808) (kand .u64 (sign : Int) 9223372036854775808))]) (some 12) (.float .f64 ((kor .u64 (kandnot .u64 (f : Int) 9223372036854775808) (kand .u64 (sign : Int) 9223372036854775808)).toNat)) [(12, .float .f64 ((kor .u64 (kandnot .u64 (f : Int) 9223372036854775808) (kand .u64 (sign : Int) 9223372036854775808)).toNat))] (fun w hM => run_f64frombits Try.func20 (by kernel_rfl) (by kernel_rfl) (by kernel_rfl) (by kernel_rfl)) (by kernel_rfl) (by kernel_rfl) ?_
  refine TL.run 9 [] [(4, .float .f64 ((kor .u64 (kandnot .u64 (f : Int) 9223372036854775808) (kand .u64 (sign : Int) 9223372036854775808)).toNat))] rfl ⟨by kernel_rfl, by kernel_rfl⟩ ?_
  refine TL.next rfl ?_
  refine TC.ret ?_
  have e : math_Copysign f sign = ((kor .u64 (kandnot .u64 (f : Int) 9223372036854775808) (kand .u64 (sign : Int) 9223372036854775808)).toNat) := by unfold math_Copysign; exact rfl
  exact TE.ret [] (.float .f64 ((kor .u64 (kandnot .u64 (f : Int) 9223372036854775808) (kand .u64 (sign : Int) 9223372036854775808)).toNat)) ⟨by kernel_rfl, by kernel_rfl⟩ (by rw [e]; first | done | kernel_rfl)

def math_Inf (sign : Int) : Nat :=
  cond (decide (sign ≥ 0)) (
    9218868437227405312) (
    18442240474082181120)

set_option maxRecDepth 100000 in
theorem math_Inf_w (sign : Int) (w : World) : Calls Try.prog 19 #[.int .i64 sign] w (Ret w (.float .f64 (math_Inf sign))) := by
  refine calls_intro (vs := [.int .i64 sign]) (w := w) Try.func19 rfl Try.ntmps19 rfl ?_
  refine TC.weak [(0, .int .i64 sign)] (by kernel_rfl) ?_
  refine TC.seq ?_
  refine TC.region ?_
  refine TL.run 1 [] [(0, .int .i64 sign)] rfl ⟨by kernel_rfl, by kernel_rfl⟩ ?_
  refine TL.next rfl ?_
  refine TC.seq ?_
  refine TC.region ?_
  refine TL.run 1 [] [(0, .int .i64 sign)] rfl ⟨by kernel_rfl, by kernel_rfl⟩ ?_
  refine TL.next rfl ?_
  refine TC.seq ?_
  refine TC.seq ?_
  refine TC.region ?_
  refine TL.run 2 [] [(5, .bool (decide (sign ≥ 0)))] rfl ⟨by kernel_rfl, by kernel_rfl⟩ ?_
  refine TL.next rfl ?_
  refine TC.cond (decide (sign ≥ 0)) rfl (by kernel_rfl) (fun h1 => ?_) (fun h1 => ?_)
  · refine TC.region ?_
    refine TL.run 1 [] [(3, .int .u64 9218868437227405312)] rfl ⟨by kernel_rfl, by kernel_rfl⟩ ?_
    refine TL.next rfl ?_
    refine TC.seq ?_
    refine TC.region ?_
    refine TL.run 1 [] [(6, .int .u64 9218868437227405312)] rfl ⟨by kernel_rfl, by kernel_rfl⟩ ?_
    refine TL.val (callFunc 20 #[.int .u64 9218868437227405312]) (some 7) (.float .f64 9218868437227405312) [(7, .float .f64 9218868437227405312)] (fun w hM => run_f64frombits Try.func20 (by kernel_rfl) (by kernel_rfl) (by kernel_rfl) (by kernel_rfl)) (by kernel_rfl) (by kernel_rfl) ?_
    refine TL.run 3 [] [(2, .float .f64 9218868437227405312)] rfl ⟨by kernel_rfl, by kernel_rfl⟩ ?_
    refine TL.next rfl ?_
    refine TC.ret ?_
    have e : math_Inf sign = 9218868437227405312 := by unfold math_Inf; exact cond_t h1 (rfl)
    exact TE.ret [] (.float .f64 9218868437227405312) ⟨by kernel_rfl, by kernel_rfl⟩ (by rw [e]; first | done | kernel_rfl)
  · refine TC.region ?_
    refine TL.run 1 [] [(3, .int .u64 18442240474082181120)] rfl ⟨by kernel_rfl, by kernel_rfl⟩ ?_
    refine TL.next rfl ?_
    refine TC.seq ?_
    refine TC.region ?_
    refine TL.run 1 [] [(6, .int .u64 18442240474082181120)] rfl ⟨by kernel_rfl, by kernel_rfl⟩ ?_
    refine TL.val (callFunc 20 #[.int .u64 18442240474082181120]) (some 7) (.float .f64 18442240474082181120) [(7, .float .f64 18442240474082181120)] (fun w hM => run_f64frombits Try.func20 (by kernel_rfl) (by kernel_rfl) (by kernel_rfl) (by kernel_rfl)) (by kernel_rfl) (by kernel_rfl) ?_
    refine TL.run 3 [] [(2, .float .f64 18442240474082181120)] rfl ⟨by kernel_rfl, by kernel_rfl⟩ ?_
    refine TL.next rfl ?_
    refine TC.ret ?_
    have e : math_Inf sign = 18442240474082181120 := by unfold math_Inf; exact cond_f h1 (rfl)
    exact TE.ret [] (.float .f64 18442240474082181120) ⟨by kernel_rfl, by kernel_rfl⟩ (by rw [e]; first | done | kernel_rfl)

def math_ldexp (frac : Nat) (exp : Int) : Nat :=
  cond (feq frac 0) (
    frac) (
    let r1 := math_IsInf frac 0
    cond r1 (
      frac) (
      let r2 := math_IsNaN frac
      cond r2 (
        frac) (
        let r3 := math_normalize frac
        cond (decide ((w64 ((w64 (exp + r3.2)) + (w64 ((kand .i64 (w64 ((r3.1 : Int).fdiv (2 ^ 52))) 2047) - 1023)))) < (-1075))) (
          let r4 := math_Copysign 0 r3.1
          r4) (
          cond (decide ((w64 ((w64 (exp + r3.2)) + (w64 ((kand .i64 (w64 ((r3.1 : Int).fdiv (2 ^ 52))) 2047) - 1023)))) > 1023)) (
            cond (flt r3.1 0) (
              let r5 := math_Inf (-1)
              r5) (
              let r6 := math_Inf 1
              r6)) (
            cond (decide ((w64 ((w64 (exp + r3.2)) + (w64 ((kand .i64 (w64 ((r3.1 : Int).fdiv (2 ^ 52))) 2047) - 1023)))) < (-1022))) (
              let r7 := kor .u64 (kandnot .u64 (r3.1 : Int) 9218868437227405312) (wu64 ((wu64 (w64 ((w64 ((w64 ((w64 (exp + r3.2)) + (w64 ((kand .i64 (w64 ((r3.1 : Int).fdiv (2 ^ 52))) 2047) - 1023)))) + 53)) + 1023))) * 2 ^ 52))
              fmul 4368491638549381120 r7.toNat) (
              fmul 4607182418800017408 ((kor .u64 (kandnot .u64 (r3.1 : Int) 9218868437227405312) (wu64 ((wu64 (w64 ((w64 ((w64 (exp + r3.2)) + (w64 ((kand .i64 (w64 ((r3.1 : Int).fdiv (2 ^ 52))) 2047) - 1023)))) + 1023))) * 2 ^ 52))).toNat)))))))

set_option maxRecDepth 100000 in
theorem math_ldexp_w (frac : Nat) (exp : Int) (w : World) (hx : frac < 18446744073709551616) : Calls Try.prog 14 #[.float .f64 frac, .int .i64 exp] w (Ret w (.float .f64 (math_ldexp frac exp))) := by
  refine calls_intro (vs := [.float .f64 frac, .int .i64 exp]) (w := w) Try.func14 rfl Try.ntmps14 rfl ?_
  refine TC.weak [(0, .float .f64 frac), (1, .int .i64 exp)] (by kernel_rfl) ?_
  refine TC.seq ?_
  refine TC.region ?_
  refine TL.run 1 [] [(0, .float .f64 frac), (1, .int .i64 exp)] rfl ⟨by kernel_rfl, by kernel_rfl⟩ ?_
  refine TL.next rfl ?_
  refine TC.seq ?_
  refine TC.block ?_
  refine TC.seq ?_
  refine TC.region ?_
  refine TL.run 3 [] [(0, .float .f64 frac), (1, .int .i64 exp), (8, .bool (feq frac 0))] rfl ⟨by kernel_rfl, by kernel_rfl⟩ ?_
  refine TL.next rfl ?_
  refine TC.cond (feq frac 0) rfl (by kernel_rfl) (fun h1 => ?_) (fun h1 => ?_)
  · refine TC.seq ?_
    refine TC.region ?_
    refine TL.run 2 [] [(4, .float .f64 frac)] rfl ⟨by kernel_rfl, by kernel_rfl⟩ ?_
    refine TL.next rfl ?_
    refine TC.ret ?_
    refine TE.ret_block (TE.ret_then ?_)
    have e : math_ldexp frac exp = frac := by unfold math_ldexp; exact cond_t h1 (rfl)
    exact TE.ret [] (.float .f64 frac) ⟨by kernel_rfl, by kernel_rfl⟩ (by rw [e]; first | done | kernel_rfl)
  · refine TC.seq ?_
    refine TC.region ?_
    refine TL.run 1 [] [(0, .float .f64 frac), (1, .int .i64 exp), (13, .float .f64 frac)] rfl ⟨by kernel_rfl, by kernel_rfl⟩ ?_
    refine TL.call (some 14) [(0, .float .f64 frac), (1, .int .i64 exp), (14, .bool ((math_IsInf frac 0)))] (fun w _ => math_IsInf_w frac 0 w (by first | omega | (simp only [w64_eq]; omega) | (simp <;> omega))) (by kernel_rfl) (by kernel_rfl) ?_
    generalize hr1 : math_IsInf frac 0 = r1
    refine TL.run 3 [] [(0, .float .f64 frac), (1, .int .i64 exp), (15, .bool r1)] rfl ⟨by kernel_rfl, by kernel_rfl⟩ ?_
    refine TL.split 15 r1 (by kernel_rfl) (fun h2 => ?_) (fun h2 => ?_)
    · refine TL.run 7 [] [(0, .float .f64 frac), (1, .int .i64 exp), (12, .bool true)] rfl ⟨by kernel_rfl, by kernel_rfl⟩ ?_
      refine TL.next rfl ?_
      refine TC.condT rfl (by kernel_rfl) ?_
      refine TC.seq ?_
      refine TC.region ?_
      refine TL.run 2 [] [(4, .float .f64 frac)] rfl ⟨by kernel_rfl, by kernel_rfl⟩ ?_
      refine TL.next rfl ?_
      refine TC.ret ?_
      refine TE.ret_block (TE.ret_then ?_)
      have e : math_ldexp frac exp = frac := by subst hr1; unfold math_ldexp; exact cond_f h1 (cond_t h2 (rfl))
      exact TE.ret [] (.float .f64 frac) ⟨by kernel_rfl, by kernel_rfl⟩ (by rw [e]; first | done | kernel_rfl)
    · refine TL.run 4 [] [(0, .float .f64 frac), (1, .int .i64 exp), (15, .bool false), (16, .float .f64 frac)] rfl ⟨by kernel_rfl, by kernel_rfl⟩ ?_
      refine TL.call (some 17) [(0, .float .f64 frac), (1, .int .i64 exp), (15, .bool false), (17, .bool ((math_IsNaN frac)))] (fun w _ => math_IsNaN_w frac w) (by kernel_rfl) (by kernel_rfl) ?_
      generalize hr2 : math_IsNaN frac = r2
      refine TL.run 7 [] [(0, .float .f64 frac), (1, .int .i64 exp), (12, .bool r2)] rfl ⟨by kernel_rfl, by kernel_rfl⟩ ?_
      refine TL.next rfl ?_
      refine TC.cond r2 rfl (by kernel_rfl) (fun h3 => ?_) (fun h3 => ?_)
      · refine TC.seq ?_
        refine TC.region ?_
        refine TL.run 2 [] [(4, .float .f64 frac)] rfl ⟨by kernel_rfl, by kernel_rfl⟩ ?_
        refine TL.next rfl ?_
        refine TC.ret ?_
        refine TE.ret_block (TE.ret_then ?_)
        have e : math_ldexp frac exp = frac := by subst hr1 hr2; unfold math_ldexp; exact cond_f h1 (cond_f h2 (cond_t h3 (rfl)))
        exact TE.ret [] (.float .f64 frac) ⟨by kernel_rfl, by kernel_rfl⟩ (by rw [e]; first | done | kernel_rfl)
      · refine TC.skip ?_
        refine TE.normal_block ?_
        refine TE.next ?_
        refine TC.seq ?_
        refine TC.region ?_
        refine TL.run 1 [] [(1, .int .i64 exp), (21, .float .f64 frac)] rfl ⟨by kernel_rfl, by kernel_rfl⟩ ?_
        refine TL.call (some 22) [(1, .int .i64 exp), (22, .tuple #[.float .f64 ((math_normalize frac).1), .int .i64 ((math_normalize frac).2)])] (fun w _ => math_normalize_w frac w hx) (by kernel_rfl) (by kernel_rfl) ?_
        generalize hr3 : math_normalize frac = r3
        refine TL.run 7 [] [(0, .float .f64 r3.1), (1, .int .i64 exp), (5, .int .i64 r3.2)] rfl ⟨by kernel_rfl, by kernel_rfl⟩ ?_
        refine TL.next rfl ?_
        refine TC.seq ?_
        refine TC.region ?_
        refine TL.run 4 [] [(0, .float .f64 r3.1), (1, .int .i64 (w64 (exp + r3.2)))] rfl ⟨by kernel_rfl, by kernel_rfl⟩ ?_
        refine TL.next rfl ?_
        refine TC.seq ?_
        refine TC.region ?_
        refine TL.run 1 [] [(0, .float .f64 r3.1), (1, .int .i64 (w64 (exp + r3.2))), (28, .float .f64 r3.1)] rfl ⟨by kernel_rfl, by kernel_rfl⟩ ?_
        refine TL.val (callFunc 8 #[.float .f64 r3.1]) (some 29) (.int .u64 (r3.1 : Int)) [(0, .float .f64 r3.1), (1, .int .i64 (w64 (exp + r3.2))), (29, .int .u64 (r3.1 : Int))] (fun w hM => run_f64bits Try.func8 (by kernel_rfl) (by kernel_rfl) (by kernel_rfl) (by kernel_rfl)) (by kernel_rfl) (by kernel_rfl) ?_
        refine TL.run 3 [] [(0, .float .f64 r3.1), (1, .int .i64 (w64 (exp + r3.2))), (6, .int .u64 (r3.1 : Int))] rfl ⟨by kernel_rfl, by kernel_rfl⟩ ?_
        refine TL.next rfl ?_
        refine TC.seq ?_
        refine TC.region ?_
        refine TL.run 8 [] [(0, .float .f64 r3.1), (1, .int .i64 (w64 ((w64 (exp + r3.2)) + (w64 ((kand .i64 (w64 ((r3.1 : Int).fdiv (2 ^ 52))) 2047) - 1023))))), (6, .int .u64 (r3.1 : Int))] rfl ⟨by kernel_rfl, by kernel_rfl⟩ ?_
        refine TL.next rfl ?_
        refine TC.seq ?_
        refine TC.seq ?_
        refine TC.region ?_
        refine TL.run 2 [] [(0, .float .f64 r3.1), (1, .int .i64 (w64 ((w64 (exp + r3.2)) + (w64 ((kand .i64 (w64 ((r3.1 : Int).fdiv (2 ^ 52))) 2047) - 1023))))), (6, .int .u64 (r3.1 : Int)), (38, .bool (decide ((w64 ((w64 (exp + r3.2)) + (w64 ((kand .i64 (w64 ((r3.1 : Int).fdiv (2 ^ 52))) 2047) - 1023)))) < (-1075))))] rfl ⟨by kernel_rfl, by kernel_rfl⟩ ?_
        refine TL.next rfl ?_
        refine TC.cond (decide ((w64 ((w64 (exp + r3.2)) + (w64 ((kand .i64 (w64 ((r3.1 : Int).fdiv (2 ^ 52))) 2047) - 1023)))) < (-1075))) rfl (by kernel_rfl) (fun h4 => ?_) (fun h4 => ?_)
        · refine TC.seq ?_
          refine TC.region ?_
          refine TL.run 1 [] [(39, .float .f64 r3.1)] rfl ⟨by kernel_rfl, by kernel_rfl⟩ ?_
          refine TL.call (some 40) [(40, .float .f64 (math_Copysign 0 r3.1))] (fun w _ => math_Copysign_w 0 r3.1 w) (by kernel_rfl) (by kernel_rfl) ?_
          generalize hr4 : math_Copysign 0 r3.1 = r4
          refine TL.run 3 [] [(4, .float .f64 r4)] rfl ⟨by kernel_rfl, by kernel_rfl⟩ ?_
          refine TL.next rfl ?_
          refine TC.ret ?_
          refine TE.ret_then ?_
          have e : math_ldexp frac exp = r4 := by subst hr1 hr2 hr3 hr4; unfold math_ldexp; exact cond_f h1 (cond_f h2 (cond_f h3 (cond_t h4 (rfl))))
          exact TE.ret [] (.float .f64 r4) ⟨by kernel_rfl, by kernel_rfl⟩ (by rw [e]; first | done | kernel_rfl)
        · refine TC.skip ?_
          refine TE.next ?_
          refine TC.seq ?_
          refine TC.seq ?_
          refine TC.region ?_
          refine TL.run 2 [] [(0, .float .f64 r3.1), (1, .int .i64 (w64 ((w64 (exp + r3.2)) + (w64 ((kand .i64 (w64 ((r3.1 : Int).fdiv (2 ^ 52))) 2047) - 1023))))), (6, .int .u64 (r3.1 : Int)), (42, .bool (decide ((w64 ((w64 (exp + r3.2)) + (w64 ((kand .i64 (w64 ((r3.1 : Int).fdiv (2 ^ 52))) 2047) - 1023)))) > 1023)))] rfl ⟨by kernel_rfl, by kernel_rfl⟩ ?_
          refine TL.next rfl ?_
          refine TC.cond (decide ((w64 ((w64 (exp + r3.2)) + (w64 ((kand .i64 (w64 ((r3.1 : Int).fdiv (2 ^ 52))) 2047) - 1023)))) > 1023)) rfl (by kernel_rfl) (fun h5 => ?_) (fun h5 => ?_)
          · refine TC.seq ?_
            refine TC.seq ?_
            refine TC.region ?_
            refine TL.run 2 [] [(44, .bool (flt r3.1 0))] rfl ⟨by kernel_rfl, by kernel_rfl⟩ ?_
            refine TL.next rfl ?_
            refine TC.cond (flt r3.1 0) rfl (by kernel_rfl) (fun h6 => ?_) (fun h6 => ?_)
            · refine TC.seq ?_
              refine TC.region ?_
              refine TL.call (some 45) [(45, .float .f64 (math_Inf (-1)))] (fun w _ => math_Inf_w (-1) w) (by kernel_rfl) (by kernel_rfl) ?_
              generalize hr5 : math_Inf (-1) = r5
              refine TL.run 2 [] [(4, .float .f64 r5)] rfl ⟨by kernel_rfl, by kernel_rfl⟩ ?_
              refine TL.next rfl ?_
              refine TC.ret ?_
              refine TE.ret_then (TE.ret_then ?_)
              have e : math_ldexp frac exp = r5 := by subst hr1 hr2 hr3 hr5; unfold math_ldexp; exact cond_f h1 (cond_f h2 (cond_f h3 (cond_f h4 (cond_t h5 (cond_t h6 (rfl))))))
              exact TE.ret [] (.float .f64 r5) ⟨by kernel_rfl, by kernel_rfl⟩ (by rw [e]; first | done | kernel_rfl)
            · refine TC.skip ?_
              refine TE.next ?_
              refine TC.seq ?_
              refine TC.region ?_
              refine TL.call (some 46) [(46, .float .f64 (math_Inf 1))] (fun w _ => math_Inf_w 1 w) (by kernel_rfl) (by kernel_rfl) ?_
              generalize hr6 : math_Inf 1 = r6
              refine TL.run 2 [] [(4, .float .f64 r6)] rfl ⟨by kernel_rfl, by kernel_rfl⟩ ?_
              refine TL.next rfl ?_
              refine TC.ret ?_
              refine TE.ret_then ?_
              have e : math_ldexp frac exp = r6 := by subst hr1 hr2 hr3 hr6; unfold math_ldexp; exact cond_f h1 (cond_f h2 (cond_f h3 (cond_f h4 (cond_t h5 (cond_f h6 (rfl))))))
              exact TE.ret [] (.float .f64 r6) ⟨by kernel_rfl, by kernel_rfl⟩ (by rw [e]; first | done | kernel_rfl)
          · refine TC.skip ?_
            refine TE.next ?_
            refine TC.seq ?_
            refine TC.region ?_
            refine TL.run 1 [] [(1, .int .i64 (w64 ((w64 (exp + r3.2)) + (w64 ((kand .i64 (w64 ((r3.1 : Int).fdiv (2 ^ 52))) 2047) - 1023))))), (6, .int .u64 (r3.1 : Int)), (7, .float .f64 4607182418800017408)] rfl ⟨by kernel_rfl, by kernel_rfl⟩ ?_
            refine TL.next rfl ?_
            refine TC.seq ?_
            refine TC.seq ?_
            refine TC.region ?_
            refine TL.run 2 [] [(1, .int .i64 (w64 ((w64 (exp + r3.2)) + (w64 ((kand .i64 (w64 ((r3.1 : Int).fdiv (2 ^ 52))) 2047) - 1023))))), (6, .int .u64 (r3.1 : Int)), (7, .float .f64 4607182418800017408), (48, .bool (decide ((w64 ((w64 (exp + r3.2)) + (w64 ((kand .i64 (w64 ((r3.1 : Int).fdiv (2 ^ 52))) 2047) - 1023)))) < (-1022))))] rfl ⟨by kernel_rfl, by kernel_rfl⟩ ?_
            refine TL.next rfl ?_
            refine TC.cond (decide ((w64 ((w64 (exp + r3.2)) + (w64 ((kand .i64 (w64 ((r3.1 : Int).fdiv (2 ^ 52))) 2047) - 1023)))) < (-1022))) rfl (by kernel_rfl) (fun h7 => ?_) (fun h7 => ?_)
            · refine TC.seq ?_
              refine TC.region ?_
              refine TL.run 3 [] [(1, .int .i64 (w64 ((w64 ((w64 (exp + r3.2)) + (w64 ((kand .i64 (w64 ((r3.1 : Int).fdiv (2 ^ 52))) 2047) - 1023)))) + 53))), (6, .int .u64 (r3.1 : Int))] rfl ⟨by kernel_rfl, by kernel_rfl⟩ ?_
              refine TL.next rfl ?_
              refine TC.region ?_
              refine TL.run 1 [] [(1, .int .i64 (w64 ((w64 ((w64 (exp + r3.2)) + (w64 ((kand .i64 (w64 ((r3.1 : Int).fdiv (2 ^ 52))) 2047) - 1023)))) + 53))), (6, .int .u64 (r3.1 : Int)), (7, .float .f64 4368491638549381120)] rfl ⟨by kernel_rfl, by kernel_rfl⟩ ?_
              refine TL.next rfl ?_
              refine TC.seq ?_
              refine TC.region ?_
              refine TL.run 3 [] [(1, .int .i64 (w64 ((w64 ((w64 (exp + r3.2)) + (w64 ((kand .i64 (w64 ((r3.1 : Int).fdiv (2 ^ 52))) 2047) - 1023)))) + 53))), (6, .int .u64 (kandnot .u64 (r3.1 : Int) 9218868437227405312)), (7, .float .f64 4368491638549381120)] rfl ⟨by kernel_rfl, by kernel_rfl⟩ ?_
              refine TL.next rfl ?_
              refine TC.seq ?_
              refine TC.region ?_
              refine TL.run 7 [] [(6, .int .u64 (kor .u64 (kandnot .u64 (r3.1 : Int) 9218868437227405312) (wu64 ((wu64 (w64 ((w64 ((w64 ((w64 (exp + r3.2)) + (w64 ((kand .i64 (w64 ((r3.1 : Int).fdiv (2 ^ 52))) 2047) - 1023)))) + 53)) + 1023))) * 2 ^ 52)))), (7, .float .f64 4368491638549381120)] rfl ⟨by kernel_rfl, by kernel_rfl⟩ ?_
              generalize hr7 : kor .u64 (kandnot .u64 (r3.1 : Int) 9218868437227405312) (wu64 ((wu64 (w64 ((w64 ((w64 ((w64 (exp + r3.2)) + (w64 ((kand .i64 (w64 ((r3.1 : Int).fdiv (2 ^ 52))) 2047) - 1023)))) + 53)) + 1023))) * 2 ^ 52)) = r7
              refine TL.next rfl ?_
              refine TC.seq ?_
              refine TC.region ?_
              refine TL.run 2 [] [(59, .float .f64 4368491638549381120), (60, .int .u64 r7)] rfl ⟨by kernel_rfl, by kernel_rfl⟩ ?_
              refine TL.val (callFunc 20 #[.int .u64 r7]) (some 61) (.float .f64 r7.toNat) [(59, .float .f64 4368491638549381120), (61, .float .f64 r7.toNat)] (fun w hM => run_f64frombits Try.func20 (by kernel_rfl) (by kernel_rfl) (by kernel_rfl) (by kernel_rfl)) (by kernel_rfl) (by kernel_rfl) ?_
              refine TL.val (sV (binOp .mul 32 (.float .f64 4368491638549381120) (.float .f64 r7.toNat))) (some 62) (.float .f64 (fmul 4368491638549381120 r7.toNat)) [(62, .float .f64 (fmul 4368491638549381120 r7.toNat))] (fun w hM => run_fmul (by have q0_ := (dec_f h4); have q1_ := (dec_f h5); have q2_ := (dec_t h7); subst hr1 hr2 hr3 hr7; first | exact ld_some (.inr rfl) _ (ld_nor (by omega) (by omega)) | exact ld_some (.inl rfl) _ (ld_den (by omega) (by omega)))) (by kernel_rfl) (by kernel_rfl) ?_
              refine TL.run 5 [] [(4, .float .f64 (fmul 4368491638549381120 r7.toNat))] rfl ⟨by kernel_rfl, by kernel_rfl⟩ ?_
              refine TL.next rfl ?_
              refine TC.ret ?_
              have e : math_ldexp frac exp = (fmul 4368491638549381120 r7.toNat) := by subst hr1 hr2 hr3 hr7; unfold math_ldexp; exact cond_f h1 (cond_f h2 (cond_f h3 (cond_f h4 (cond_f h5 (cond_t h7 (rfl))))))
              exact TE.ret [] (.float .f64 (fmul 4368491638549381120 r7.toNat)) ⟨by kernel_rfl, by kernel_rfl⟩ (by rw [e]; first | done | kernel_rfl)
            · refine TC.skip ?_
              refine TE.next ?_
              refine TC.seq ?_
              refine TC.region ?_
              refine TL.run 3 [] [(1, .int .i64 (w64 ((w64 (exp + r3.2)) + (w64 ((kand .i64 (w64 ((r3.1 : Int).fdiv (2 ^ 52))) 2047) - 1023))))), (6, .int .u64 (kandnot .u64 (r3.1 : Int) 9218868437227405312)), (7, .float .f64 4607182418800017408)] rfl ⟨by kernel_rfl, by kernel_rfl⟩ ?_
              refine TL.next rfl ?_
              refine TC.seq ?_
              refine TC.region ?_
              refine TL.run 7 [] [(6, .int .u64 (kor .u64 (kandnot .u64 (r3.1 : Int) 9218868437227405312) (wu64 ((wu64 (w64 ((w64 ((w64 (exp + r3.2)) + (w64 ((kand .i64 (w64 ((r3.1 : Int).fdiv (2 ^ 52))) 2047) - 1023)))) + 1023))) * 2 ^ 52)))), (7, .float .f64 4607182418800017408)] rfl ⟨by kernel_rfl, by kernel_rfl⟩ ?_
              refine TL.next rfl ?_
              refine TC.seq ?_
              refine TC.region ?_
              refine TL.run 2 [] [(59, .float .f64 4607182418800017408), (60, .int .u64 (kor .u64 (kandnot .u64 (r3.1 : Int) 9218868437227405312) (wu64 ((wu64 (w64 ((w64 ((w64 (exp + r3.2)) + (w64 ((kand .i64 (w64 ((r3.1 : Int).fdiv (2 ^ 52))) 2047) - 1023)))) + 1023))) * 2 ^ 52))))] rfl ⟨by kernel_rfl, by kernel_rfl⟩ ?_
              refine TL.val (callFunc 20 #[.int .u64 (kor .u64 (kandnot .u64 (r3.1 : Int) 9218868437227405312) (wu64 ((wu64 (w64 ((w64 ((w64 (exp + r3.2)) + (w64 ((kand .i64 (w64 ((r3.1 : Int).fdiv (2 ^ 52))) 2047) - 1023)))) + 1023))) * 2 ^ 52)))]) (some 61) (.float .f64 ((kor .u64 (kandnot .u64 (r3.1 : Int) 9218868437227405312) (wu64 ((wu64 (w64 ((w64 ((w64 (exp + r3.2)) + (w64 ((kand .i64 (w64 ((r3.1 : Int).fdiv (2 ^ 52))) 2047) - 1023)))) + 1023))) * 2 ^ 52))).toNat)) [(59, .float .f64 4607182418800017408), (61, .float .f64 ((kor .u64 (kandnot .u64 (r3.1 : Int) 9218868437227405312) (wu64 ((wu64 (w64 ((w64 ((w64 (exp + r3.2)) + (w64 ((kand .i64 (w64 ((r3.1 : Int).fdiv (2 ^ 52))) 2047) - 1023)))) + 1023))) * 2 ^ 52))).toNat))] (fun w hM => run_f64frombits Try.func20 (by kernel_rfl) (by kernel_rfl) (by kernel_rfl) (by kernel_rfl)) (by kernel_rfl) (by kernel_rfl) ?_
              refine TL.val (sV (binOp .mul 32 (.float .f64 4607182418800017408) (.float .f64 ((kor .u64 (kandnot .u64 (r3.1 : Int) 9218868437227405312) (wu64 ((wu64 (w64 ((w64 ((w64 (exp + r3.2)) + (w64 ((kand .i64 (w64 ((r3.1 : Int).fdiv (2 ^ 52))) 2047) - 1023)))) + 1023))) * 2 ^ 52))).toNat)))) (some 62) (.float .f64 (fmul 4607182418800017408 ((kor .u64 (kandnot .u64 (r3.1 : Int) 9218868437227405312) (wu64 ((wu64 (w64 ((w64 ((w64 (exp + r3.2)) + (w64 ((kand .i64 (w64 ((r3.1 : Int).fdiv (2 ^ 52))) 2047) - 1023)))) + 1023))) * 2 ^ 52))).toNat))) [(62, .float .f64 (fmul 4607182418800017408 ((kor .u64 (kandnot .u64 (r3.1 : Int) 9218868437227405312) (wu64 ((wu64 (w64 ((w64 ((w64 (exp + r3.2)) + (w64 ((kand .i64 (w64 ((r3.1 : Int).fdiv (2 ^ 52))) 2047) - 1023)))) + 1023))) * 2 ^ 52))).toNat)))] (fun w hM => run_fmul (by have q0_ := (dec_f h4); have q1_ := (dec_f h5); have q2_ := (dec_f h7); subst hr1 hr2 hr3; first | exact ld_some (.inr rfl) _ (ld_nor (by omega) (by omega)) | exact ld_some (.inl rfl) _ (ld_den (by omega) (by omega)))) (by kernel_rfl) (by kernel_rfl) ?_
              refine TL.run 5 [] [(4, .float .f64 (fmul 4607182418800017408 ((kor .u64 (kandnot .u64 (r3.1 : Int) 9218868437227405312) (wu64 ((wu64 (w64 ((w64 ((w64 (exp + r3.2)) + (w64 ((kand .i64 (w64 ((r3.1 : Int).fdiv (2 ^ 52))) 2047) - 1023)))) + 1023))) * 2 ^ 52))).toNat)))] rfl ⟨by kernel_rfl, by kernel_rfl⟩ ?_
              refine TL.next rfl ?_
              refine TC.ret ?_
              have e : math_ldexp frac exp = (fmul 4607182418800017408 ((kor .u64 (kandnot .u64 (r3.1 : Int) 9218868437227405312) (wu64 ((wu64 (w64 ((w64 ((w64 (exp + r3.2)) + (w64 ((kand .i64 (w64 ((r3.1 : Int).fdiv (2 ^ 52))) 2047) - 1023)))) + 1023))) * 2 ^ 52))).toNat)) := by subst hr1 hr2 hr3; unfold math_ldexp; exact cond_f h1 (cond_f h2 (cond_f h3 (cond_f h4 (cond_f h5 (cond_f h7 (rfl))))))
              exact TE.ret [] (.float .f64 (fmul 4607182418800017408 ((kor .u64 (kandnot .u64 (r3.1 : Int) 9218868437227405312) (wu64 ((wu64 (w64 ((w64 ((w64 (exp + r3.2)) + (w64 ((kand .i64 (w64 ((r3.1 : Int).fdiv (2 ^ 52))) 2047) - 1023)))) + 1023))) * 2 ^ 52))).toNat))) ⟨by kernel_rfl, by kernel_rfl⟩ (by rw [e]; first | done | kernel_rfl)

def math_Ldexp (frac : Nat) (exp : Int) : Nat :=
  let r1 := math_ldexp frac exp
  r1

set_option maxRecDepth 100000 in
theorem math_Ldexp_w (frac : Nat) (exp : Int) (w : World) (hx : frac < 18446744073709551616) : Calls Try.prog 9 #[.float .f64 frac, .int .i64 exp] w (Ret w (.float .f64 (math_Ldexp frac exp))) := by
  refine calls_intro (vs := [.float .f64 frac, .int .i64 exp]) (w := w) Try.func9 rfl Try.ntmps9 rfl ?_
  refine TC.weak [(0, .float .f64 frac), (1, .int .i64 exp)] (by kernel_rfl) ?_
  refine TC.seq ?_
  refine TC.region ?_
  refine TL.run 1 [] [(0, .float .f64 frac), (1, .int .i64 exp)] rfl ⟨by kernel_rfl, by kernel_rfl⟩ ?_
  refine TL.next rfl ?_
  refine TC.seq ?_
  refine TC.condF rfl (by kernel_rfl) ?_
  refine TC.skip ?_
  refine TE.next ?_
  refine TC.seq ?_
  refine TC.region ?_
  refine TL.run 2 [] [(8, .float .f64 frac), (9, .int .i64 exp)] rfl ⟨by kernel_rfl, by kernel_rfl⟩ ?_
  refine TL.call (some 10) [(10, .float .f64 (math_ldexp frac exp))] (fun w _ => math_ldexp_w frac exp w hx) (by kernel_rfl) (by kernel_rfl) ?_
  generalize hr1 : math_ldexp frac exp = r1
  refine TL.run 4 [] [(4, .float .f64 r1)] rfl ⟨by kernel_rfl, by kernel_rfl⟩ ?_
  refine TL.next rfl ?_
  refine TC.ret ?_
  have e : math_Ldexp frac exp = r1 := by subst hr1; unfold math_Ldexp; exact rfl
  exact TE.ret [] (.float .f64 r1) ⟨by kernel_rfl, by kernel_rfl⟩ (by rw [e]; first | done | kernel_rfl)

def bits_FromFixed (n : Int) (scale : Int) : Int × Int :=
  cond ((decide (scale < 0)) || (decide (scale > 60))) (
    (0, 4)) (
    let r1 := math_Ldexp (dbl n) (w64 (0 - scale))
    ((r1 : Int), 0))

set_option maxRecDepth 100000 in
theorem bits_FromFixed_w (n : Int) (scale : Int) (w : World) : Calls Try.prog 5 #[.int .i64 n, .int .i64 scale] w (Ret w (.tuple #[.int .u64 ((bits_FromFixed n scale).1), .int .i64 ((bits_FromFixed n scale).2)])) := by
  refine calls_intro (vs := [.int .i64 n, .int .i64 scale]) (w := w) Try.func5 rfl Try.ntmps5 rfl ?_
  refine TC.weak [(0, .int .i64 n), (1, .int .i64 scale)] (by kernel_rfl) ?_
  refine TC.seq ?_
  refine TC.region ?_
  refine TL.run 2 [] [(0, .int .i64 n), (1, .int .i64 scale)] rfl ⟨by kernel_rfl, by kernel_rfl⟩ ?_
  refine TL.next rfl ?_
  refine TC.seq ?_
  refine TC.seq ?_
  refine TC.region ?_
  refine TL.run 3 [] [(0, .int .i64 n), (1, .int .i64 scale), (8, .bool (decide (scale < 0)))] rfl ⟨by kernel_rfl, by kernel_rfl⟩ ?_
  refine TL.join 8 (decide (scale < 0)) 6 [] [] (fun β => [(0, .int .i64 n), (1, .int .i64 scale), (11, .bool (β || (decide (scale > 60))))]) (by kernel_rfl) rfl ⟨by kernel_rfl, by kernel_rfl⟩ ⟨by kernel_rfl, by kernel_rfl⟩ ?_
  refine TL.next rfl ?_
  refine TC.cond ((decide (scale < 0)) || (decide (scale > 60))) rfl (by kernel_rfl) (fun h1 => ?_) (fun h1 => ?_)
  · refine TC.seq ?_
    refine TC.region ?_
    refine TL.run 2 [] [(4, .int .u64 0), (5, .int .i64 4)] rfl ⟨by kernel_rfl, by kernel_rfl⟩ ?_
    refine TL.next rfl ?_
    refine TC.ret ?_
    refine TE.ret_then ?_
    have e : bits_FromFixed n scale = (0, 4) := by unfold bits_FromFixed; exact cond_t h1 (rfl)
    exact TE.ret [] (.tuple #[.int .u64 0, .int .i64 4]) ⟨by kernel_rfl, by kernel_rfl⟩ (by rw [e]; first | done | kernel_rfl)
  · refine TC.skip ?_
    refine TE.next ?_
    refine TC.seq ?_
    refine TC.region ?_
    refine TL.run 4 [] [(13, .float .f64 (dbl n)), (15, .int .i64 (w64 (0 - scale)))] rfl ⟨by kernel_rfl, by kernel_rfl⟩ ?_
    refine TL.call (some 16) [(16, .float .f64 (math_Ldexp (dbl n) (w64 (0 - scale))))] (fun w _ => math_Ldexp_w (dbl n) (w64 (0 - scale)) w (dbl_lt _)) (by kernel_rfl) (by kernel_rfl) ?_
    generalize hr1 : math_Ldexp (dbl n) (w64 (0 - scale)) = r1
    refine TL.val (callFunc 8 #[.float .f64 r1]) (some 17) (.int .u64 (r1 : Int)) [(17, .int .u64 (r1 : Int))] (fun w hM => run_f64bits Try.func8 (by kernel_rfl) (by kernel_rfl) (by kernel_rfl) (by kernel_rfl)) (by kernel_rfl) (by kernel_rfl) ?_
    refine TL.run 8 [] [(4, .int .u64 (r1 : Int)), (5, .int .i64 0)] rfl ⟨by kernel_rfl, by kernel_rfl⟩ ?_
    refine TL.next rfl ?_
    refine TC.ret ?_
    have e : bits_FromFixed n scale = ((r1 : Int), 0) := by subst hr1; unfold bits_FromFixed; exact cond_f h1 (rfl)
    exact TE.ret [] (.tuple #[.int .u64 (r1 : Int), .int .i64 0]) ⟨by kernel_rfl, by kernel_rfl⟩ (by rw [e]; first | done | kernel_rfl)

def bits_exponent (b_ : Int) : Int :=
  w64 (kand .u64 (b_.fdiv (2 ^ 52)) 2047)

set_option maxRecDepth 100000 in
theorem bits_exponent_w (b_ : Int) (w : World) : Calls Try.prog 10 #[.int .u64 b_] w (Ret w (.int .i64 (bits_exponent b_))) := by
  refine calls_intro (vs := [.int .u64 b_]) (w := w) Try.func10 rfl Try.ntmps10 rfl ?_
  refine TC.weak [(0, .int .u64 b_)] (by kernel_rfl) ?_
  refine TC.seq ?_
  refine TC.region ?_
  refine TL.run 1 [] [(0, .int .u64 b_)] rfl ⟨by kernel_rfl, by kernel_rfl⟩ ?_
  refine TL.next rfl ?_
  refine TC.seq ?_
  refine TC.region ?_
  refine TL.run 5 [] [(2, .int .i64 (w64 (kand .u64 (b_.fdiv (2 ^ 52)) 2047)))] rfl ⟨by kernel_rfl, by kernel_rfl⟩ ?_
  refine TL.next rfl ?_
  refine TC.ret ?_
  have e : bits_exponent b_ = (w64 (kand .u64 (b_.fdiv (2 ^ 52)) 2047)) := by unfold bits_exponent; exact rfl
  exact TE.ret [] (.int .i64 (w64 (kand .u64 (b_.fdiv (2 ^ 52)) 2047))) ⟨by kernel_rfl, by kernel_rfl⟩ (by rw [e]; first | done | kernel_rfl)

def bits_fraction (b_ : Int) : Int :=
  kand .u64 b_ 4503599627370495

set_option maxRecDepth 100000 in
theorem bits_fraction_w (b_ : Int) (w : World) : Calls Try.prog 11 #[.int .u64 b_] w (Ret w (.int .u64 (bits_fraction b_))) := by
  refine calls_intro (vs := [.int .u64 b_]) (w := w) Try.func11 rfl Try.ntmps11 rfl ?_
  refine TC.weak [(0, .int .u64 b_)] (by kernel_rfl) ?_
  refine TC.seq ?_
  refine TC.region ?_
  refine TL.run 1 [] [(0, .int .u64 b_)] rfl ⟨by kernel_rfl, by kernel_rfl⟩ ?_
  refine TL.next rfl ?_
  refine TC.seq ?_
  refine TC.region ?_
  refine TL.run 3 [] [(2, .int .u64 (kand .u64 b_ 4503599627370495))] rfl ⟨by kernel_rfl, by kernel_rfl⟩ ?_
  refine TL.next rfl ?_
  refine TC.ret ?_
  have e : bits_fraction b_ = (kand .u64 b_ 4503599627370495) := by unfold bits_fraction; exact rfl
  exact TE.ret [] (.int .u64 (kand .u64 b_ 4503599627370495)) ⟨by kernel_rfl, by kernel_rfl⟩ (by rw [e]; first | done | kernel_rfl)

end Go.Sky
