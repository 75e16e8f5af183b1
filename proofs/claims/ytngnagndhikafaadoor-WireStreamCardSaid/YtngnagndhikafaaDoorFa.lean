/- Functions of the program, each with the Lean function that it computes. Conditions: none. -/
import Derived.Test.YtngnagndhikafaaDoorRows
import Derived.Test.YtngnagndhikafaaDoorEqb
import Derived.Test.YtngnagndhikafaaDoorFct
import Derived.Test.YtngnagndhikafaaDoorStrs
import Derived.Test.YtngnagndhikafaaDoorFltB
import Derived.Test.YtngnagndhikafaaDoorDelta
namespace Go.Sky
open Go Go.Eng Go.Proofs
def math_Abs (x : Nat) : Nat :=
  (kandnot .u64 (x : Int) 9223372036854775808).toNat

set_option maxRecDepth 100000 in
theorem math_Abs_w (x : Nat) (w : World) : Calls Tryd.prog 56 #[.float .f64 x] w (Ret w (.float .f64 (math_Abs x))) := by
  exact calls_intro (vs := [.float .f64 x]) (w := w) Tryd.func56 rfl Tryd.ntmps56 rfl (TC.sr (TL.r 1 [] [(2, .float .f64 0)] {} (TL.nr (TL.r 1 [] [(3, .float .f64 x)] {} (TL.v (callFunc 28 #[.float .f64 x]) 4 (.int .u64 (x : Int)) (fun w hM => run_f64bits Tryd.func28 Kr Kr Kr Kr) {} (TL.r 3 [] [(5, .int .u64 (kandnot .u64 (x : Int) 9223372036854775808))] {} (TL.v (callFunc 53 #[.int .u64 (kandnot .u64 (x : Int) 9223372036854775808)]) 6 (.float .f64 ((kandnot .u64 (x : Int) 9223372036854775808).toNat)) (fun w hM => run_f64frombits Tryd.func53 Kr Kr Kr Kr) {} (TL.r 5 [] [(2, .float .f64 ((kandnot .u64 (x : Int) 9223372036854775808).toNat))] {} (TL.next rfl (TC.ret (TE.ret [] (.float .f64 ((kandnot .u64 (x : Int) 9223372036854775808).toNat)) {} (by unfold math_Abs; refine eS (fun z => (.float .f64 z : Value)) ?_; exact rfl))))))))))))

def math_IsInf (f : Nat) (sign : Int) : Bool :=
  cond (sign == 0) (
    let r1 := math_Abs f
    fgt r1 9218868437227405311) (
    false)

set_option maxRecDepth 100000 in
theorem math_IsInf_w (f : Nat) (sign : Int) (w : World) (hs : sign = 0) : Calls Tryd.prog 48 #[.float .f64 f, .int .i64 sign] w (Ret w (.bool (math_IsInf f sign))) := by
  refine calls_intro (vs := [.float .f64 f, .i sign]) (w := w) Tryd.func48 rfl Tryd.ntmps48 rfl (TC.sr (TL.r 1 [] [(4, .b false)] {} (TL.ns (TC.sr (TL.r 2 [] [(6, .b (sign == 0))] {} (TL.next rfl (TC.cond (sign == 0) rfl Kr (fun h1 => ?_) (fun h1 => ?_))))))))
  · exact TC.region (TL.r 1 [] [(7, .float .f64 f)] {} (TL.c 8 (math_Abs f) (fun r1 => .float .f64 r1) (fun w _ => math_Abs_w f w) {} (fun r1 hr1 => TL.r 3 [] [(0, .float .f64 r1)] {} (TL.nr (TL.r 3 [] [(4, .b (fgt r1 9218868437227405311))] {} (TL.next rfl (TC.ret (TE.ret [] (.b (fgt r1 9218868437227405311)) {} (by unfold math_IsInf; refine eS (fun z => (.b z : Value)) ?_; subst hr1; exact cond_t h1 (rfl))))))))))
  · exact ((by subst hs; cases h1) : False).elim

def math_IsNaN (f : Nat) : Bool :=
  fne f f

set_option maxRecDepth 100000 in
theorem math_IsNaN_w (f : Nat) (w : World) : Calls Tryd.prog 49 #[.float .f64 f] w (Ret w (.bool (math_IsNaN f))) := by
  exact calls_intro (vs := [.float .f64 f]) (w := w) Tryd.func49 rfl Tryd.ntmps49 rfl (TC.sr (TL.r 1 [] [(2, .b false)] {} (TL.nr (TL.r 4 [] [(2, .b (fne f f))] {} (TL.next rfl (TC.ret (TE.ret [] (.b (fne f f)) {} (by unfold math_IsNaN; refine eS (fun z => (.b z : Value)) ?_; exact rfl))))))))

def math_normalize (x : Nat) : Nat × Int :=
  let r1 := math_Abs x
  cond (flt r1 4503599627370496) (
    (fmul x 4841369599423283200, (-52))) (
    (x, 0))

set_option maxRecDepth 100000 in
theorem math_normalize_w (x : Nat) (w : World) (hx : x < 18446744073709551616) : Calls Tryd.prog 50 #[.float .f64 x] w (Ret w (.tuple #[.float .f64 ((math_normalize x).1), .int .i64 ((math_normalize x).2)])) := by
  refine calls_intro (vs := [.float .f64 x]) (w := w) Tryd.func50 rfl Tryd.ntmps50 rfl (TC.sr (TL.r 2 [] [(2, .float .f64 0), (3, .i 0)] {} (TL.ns (TC.sr (TL.r 1 [] [(4, .float .f64 x)] {} (TL.c 5 (math_Abs x) (fun r1 => .float .f64 r1) (fun w _ => math_Abs_w x w) {} (fun r1 hr1 => TL.r 3 [] [(6, .b (flt r1 4503599627370496))] {} (TL.next rfl (TC.cond (flt r1 4503599627370496) rfl Kr (fun h1 => ?_) (fun h1 => ?_))))))))))
  · exact TC.sr (TL.r 1 [] [(7, .float .f64 x)] {} (TL.v (sV (binOp .mul 70 (.float .f64 x) (.float .f64 4841369599423283200))) 8 (.float .f64 (fmul x 4841369599423283200)) (fun w hM => run_fmul (by subst hr1; exact norm_some hx h1)) {} (TL.r 4 [] [(2, .float .f64 (fmul x 4841369599423283200)), (3, .i (-52))] {} (TL.next rfl (TC.ret (TE.rt (TE.ret [] (.tuple #[.float .f64 (fmul x 4841369599423283200), .i (-52)]) {} (by unfold math_normalize; refine eS (a := (fmul x 4841369599423283200, (-52))) (fun (z : Nat × Int) => (.tuple #[.float .f64 z.1, .i z.2] : Value)) ?_; subst hr1; exact cond_t h1 (rfl)))))))))
  · exact TC.snr (TL.r 3 [] [(2, .float .f64 x), (3, .i 0)] {} (TL.next rfl (TC.ret (TE.ret [] (.tuple #[.float .f64 x, .i 0]) {} (by unfold math_normalize; refine eS (a := (x, 0)) (fun (z : Nat × Int) => (.tuple #[.float .f64 z.1, .i z.2] : Value)) ?_; subst hr1; exact cond_f h1 (rfl))))))

def math_Copysign (f : Nat) (sign : Nat) : Nat :=
  (kor .u64 (kandnot .u64 (f : Int) 9223372036854775808) (kand .u64 (sign : Int) 9223372036854775808)).toNat

set_option maxRecDepth 100000 in
theorem math_Copysign_w (f : Nat) (sign : Nat) (w : World) : Calls Tryd.prog 51 #[.float .f64 f, .float .f64 sign] w (Ret w (.float .f64 (math_Copysign f sign))) := by
  exact calls_intro (vs := [.float .f64 f, .float .f64 sign]) (w := w) Tryd.func51 rfl Tryd.ntmps51 rfl (TC.sr (TL.r 1 [] [(4, .float .f64 0)] {} (TL.nr (TL.r 1 [] [(5, .float .f64 f)] {} (TL.v (callFunc 28 #[.float .f64 f]) 6 (.int .u64 (f : Int)) (fun w hM => run_f64bits Tryd.func28 Kr Kr Kr Kr) {} (TL.r 4 [] [(7, .int .u64 (kandnot .u64 (f : Int) 9223372036854775808)), (8, .float .f64 sign)] {} (TL.v (callFunc 28 #[.float .f64 sign]) 9 (.int .u64 (sign : Int)) (fun w hM => run_f64bits Tryd.func28 Kr Kr Kr Kr) {} (TL.r 7 [] [(11, .int .u64 (kor .u64 (kandnot .u64 (f : Int) 9223372036854775808) (kand .u64 (sign : Int) 9223372036854775808)))] {} (TL.v (callFunc 53 #[.int .u64 (kor .u64 (kandnot .u64 (f : Int) 9223372036854775808) (kand .u64 (sign : Int) 9223372036854775808))]) 12 (.float .f64 ((kor .u64 (kandnot .u64 (f : Int) 9223372036854775808) (kand .u64 (sign : Int) 9223372036854775808)).toNat)) (fun w hM => run_f64frombits Tryd.func53 Kr Kr Kr Kr) {} (TL.r 9 [] [(4, .float .f64 ((kor .u64 (kandnot .u64 (f : Int) 9223372036854775808) (kand .u64 (sign : Int) 9223372036854775808)).toNat))] {} (TL.next rfl (TC.ret (TE.ret [] (.float .f64 ((kor .u64 (kandnot .u64 (f : Int) 9223372036854775808) (kand .u64 (sign : Int) 9223372036854775808)).toNat)) {} (by unfold math_Copysign; refine eS (fun z => (.float .f64 z : Value)) ?_; exact rfl))))))))))))))

def math_Inf (sign : Int) : Nat :=
  cond (decide (sign ≥ 0)) (
    9218868437227405312) (
    18442240474082181120)

set_option maxRecDepth 100000 in
theorem math_Inf_w (sign : Int) (w : World) : Calls Tryd.prog 52 #[.int .i64 sign] w (Ret w (.float .f64 (math_Inf sign))) := by
  refine calls_intro (vs := [.i sign]) (w := w) Tryd.func52 rfl Tryd.ntmps52 rfl (TC.sr (TL.r 1 [] [(2, .float .f64 0)] {} (TL.nr (TL.r 1 [] [(3, .int .u64 0)] {} (TL.ns (TC.sr (TL.r 2 [] [(5, .b (decide (sign ≥ 0)))] {} (TL.next rfl (TC.cond (decide (sign ≥ 0)) rfl Kr (fun h1 => ?_) (fun h1 => ?_))))))))))
  · exact TC.region (TL.r 1 [] [(3, .int .u64 9218868437227405312)] {} (TL.nr (TL.r 1 [] [(6, .int .u64 9218868437227405312)] {} (TL.v (callFunc 53 #[.int .u64 9218868437227405312]) 7 (.float .f64 9218868437227405312) (fun w hM => run_f64frombits Tryd.func53 Kr Kr Kr Kr) {} (TL.r 3 [] [(2, .float .f64 9218868437227405312)] {} (TL.next rfl (TC.ret (TE.ret [] (.float .f64 9218868437227405312) {} (by unfold math_Inf; refine eS (fun z => (.float .f64 z : Value)) ?_; exact cond_t h1 (rfl))))))))))
  · exact TC.region (TL.r 1 [] [(3, .int .u64 18442240474082181120)] {} (TL.nr (TL.r 1 [] [(6, .int .u64 18442240474082181120)] {} (TL.v (callFunc 53 #[.int .u64 18442240474082181120]) 7 (.float .f64 18442240474082181120) (fun w hM => run_f64frombits Tryd.func53 Kr Kr Kr Kr) {} (TL.r 3 [] [(2, .float .f64 18442240474082181120)] {} (TL.next rfl (TC.ret (TE.ret [] (.float .f64 18442240474082181120) {} (by unfold math_Inf; refine eS (fun z => (.float .f64 z : Value)) ?_; exact cond_f h1 (rfl))))))))))

def math_ldexp (frac : Nat) (exp : Int) : Nat :=
  cond (feq frac 0) (
    frac) (
    let r1 := math_IsInf frac 0
    cond r1 (
      frac) (
      let r2 := math_IsNaN frac
      cond r2 (
        frac) (
        let r3 := math_normalize frac
        cond (decide ((w64 ((w64 (exp + r3.2)) + (w64 ((kand .i64 (w64 ((r3.1 : Int).fdiv (2 ^ 52))) 2047) - 1023)))) < (-1075))) (
          let r4 := math_Copysign 0 r3.1
          r4) (
          cond (decide ((w64 ((w64 (exp + r3.2)) + (w64 ((kand .i64 (w64 ((r3.1 : Int).fdiv (2 ^ 52))) 2047) - 1023)))) > 1023)) (
            cond (flt r3.1 0) (
              let r5 := math_Inf (-1)
              r5) (
              let r6 := math_Inf 1
              r6)) (
            cond (decide ((w64 ((w64 (exp + r3.2)) + (w64 ((kand .i64 (w64 ((r3.1 : Int).fdiv (2 ^ 52))) 2047) - 1023)))) < (-1022))) (
              let r7 := kor .u64 (kandnot .u64 (r3.1 : Int) 9218868437227405312) (wu64 ((wu64 (w64 ((w64 ((w64 ((w64 (exp + r3.2)) + (w64 ((kand .i64 (w64 ((r3.1 : Int).fdiv (2 ^ 52))) 2047) - 1023)))) + 53)) + 1023))) * 2 ^ 52))
              fmul 4368491638549381120 r7.toNat) (
              fmul 4607182418800017408 ((kor .u64 (kandnot .u64 (r3.1 : Int) 9218868437227405312) (wu64 ((wu64 (w64 ((w64 ((w64 (exp + r3.2)) + (w64 ((kand .i64 (w64 ((r3.1 : Int).fdiv (2 ^ 52))) 2047) - 1023)))) + 1023))) * 2 ^ 52))).toNat)))))))

set_option maxRecDepth 100000 in
theorem math_ldexp_w (frac : Nat) (exp : Int) (w : World) (hx : frac < 18446744073709551616) : Calls Tryd.prog 41 #[.float .f64 frac, .int .i64 exp] w (Ret w (.float .f64 (math_ldexp frac exp))) := by
  refine calls_intro (vs := [.float .f64 frac, .i exp]) (w := w) Tryd.func41 rfl Tryd.ntmps41 rfl (TC.sr (TL.r 1 [] [(4, .float .f64 0)] {} (TL.ns (TC.block (TC.sr (TL.r 3 [] [(8, .b (feq frac 0))] {} (TL.next rfl (TC.cond (feq frac 0) rfl Kr (fun h1 => ?_) (fun h1 => ?_)))))))))
  · refine TC.sr (TL.r 2 [] [(4, .float .f64 frac)] {} (TL.next rfl (TC.ret (TE.rb (TE.rt ?_)))))
    exact TE.ret [] (.float .f64 frac) {} (by unfold math_ldexp; refine eS (fun z => (.float .f64 z : Value)) ?_; exact cond_t h1 (rfl))
  · refine TC.sr (TL.r 1 [] [(13, .float .f64 frac)] {} (TL.c 14 (math_IsInf frac 0) (fun r1 => .b r1) (fun w _ => math_IsInf_w frac 0 w sg) {} (fun r1 hr1 => TL.r 3 [] [(15, .b r1)] {} (TL.split 15 r1 Kr (fun h2 => ?_) (fun h2 => ?_)))))
    · refine TL.r 7 [] [(12, .b true)] {} (TL.next rfl (TC.condT rfl Kr (TC.sr (TL.r 2 [] [(4, .float .f64 frac)] {} (TL.next rfl (TC.ret (TE.rb (TE.rt ?_))))))))
      exact TE.ret [] (.float .f64 frac) {} (by unfold math_ldexp; refine eS (fun z => (.float .f64 z : Value)) ?_; subst hr1; exact cond_f h1 (cond_t h2 (rfl)))
    · refine TL.r 4 [] [(16, .float .f64 frac)] {} (TL.c 17 (math_IsNaN frac) (fun r2 => .b r2) (fun w _ => math_IsNaN_w frac w) {} (fun r2 hr2 => TL.r 7 [] [(12, .b r2)] {} (TL.next rfl (TC.cond r2 rfl Kr (fun h3 => ?_) (fun h3 => ?_)))))
      · refine TC.sr (TL.r 2 [] [(4, .float .f64 frac)] {} (TL.next rfl (TC.ret (TE.rb (TE.rt ?_)))))
        exact TE.ret [] (.float .f64 frac) {} (by unfold math_ldexp; refine eS (fun z => (.float .f64 z : Value)) ?_; subst hr1 hr2; exact cond_f h1 (cond_f h2 (cond_t h3 (rfl))))
      · refine TC.skip (TE.nb (TE.nr (TL.r 1 [] [(21, .float .f64 frac)] {} (TL.c 22 (math_normalize frac) (fun r3 => .tuple #[.float .f64 r3.1, .i r3.2]) (fun w _ => math_normalize_w frac w hx) {} (fun r3 hr3 => TL.r 7 [] [(0, .float .f64 r3.1), (5, .i r3.2)] {} (TL.nr (TL.r 4 [] [(1, .i (w64 (exp + r3.2)))] {} (TL.nr (TL.r 1 [] [(28, .float .f64 r3.1)] {} (TL.v (callFunc 28 #[.float .f64 r3.1]) 29 (.int .u64 (r3.1 : Int)) (fun w hM => run_f64bits Tryd.func28 Kr Kr Kr Kr) {} (TL.r 3 [] [(6, .int .u64 (r3.1 : Int))] {} (TL.nr (TL.r 8 [] [(1, .i (w64 ((w64 (exp + r3.2)) + (w64 ((kand .i64 (w64 ((r3.1 : Int).fdiv (2 ^ 52))) 2047) - 1023)))))] {} (TL.ns (TC.sr (TL.r 2 [] [(38, .b (decide ((w64 ((w64 (exp + r3.2)) + (w64 ((kand .i64 (w64 ((r3.1 : Int).fdiv (2 ^ 52))) 2047) - 1023)))) < (-1075))))] {} (TL.next rfl (TC.cond (decide ((w64 ((w64 (exp + r3.2)) + (w64 ((kand .i64 (w64 ((r3.1 : Int).fdiv (2 ^ 52))) 2047) - 1023)))) < (-1075))) rfl Kr (fun h4 => ?_) (fun h4 => ?_)))))))))))))))))))
        · exact TC.sr (TL.r 1 [] [(39, .float .f64 r3.1)] {} (TL.c 40 (math_Copysign 0 r3.1) (fun r4 => .float .f64 r4) (fun w _ => math_Copysign_w 0 r3.1 w) {} (fun r4 hr4 => TL.r 3 [] [(4, .float .f64 r4)] {} (TL.next rfl (TC.ret (TE.rt (TE.ret [] (.float .f64 r4) {} (by unfold math_ldexp; refine eS (fun z => (.float .f64 z : Value)) ?_; subst hr1 hr2 hr3 hr4; exact cond_f h1 (cond_f h2 (cond_f h3 (cond_t h4 (rfl))))))))))))
        · have q4_0 := (dec_f h4)
          refine TC.sn (TC.seq (TC.sr (TL.r 2 [] [(42, .b (decide ((w64 ((w64 (exp + r3.2)) + (w64 ((kand .i64 (w64 ((r3.1 : Int).fdiv (2 ^ 52))) 2047) - 1023)))) > 1023)))] {} (TL.next rfl (TC.cond (decide ((w64 ((w64 (exp + r3.2)) + (w64 ((kand .i64 (w64 ((r3.1 : Int).fdiv (2 ^ 52))) 2047) - 1023)))) > 1023)) rfl Kr (fun h5 => ?_) (fun h5 => ?_))))))
          · refine TC.seq (TC.sr (TL.r 2 [] [(44, .b (flt r3.1 0))] {} (TL.next rfl (TC.cond (flt r3.1 0) rfl Kr (fun h6 => ?_) (fun h6 => ?_)))))
            · refine TC.sr (TL.c 45 (math_Inf (-1)) (fun r5 => .float .f64 r5) (fun w _ => math_Inf_w (-1) w) {} (fun r5 hr5 => TL.r 2 [] [(4, .float .f64 r5)] {} (TL.next rfl (TC.ret (TE.rt (TE.rt ?_))))))
              exact TE.ret [] (.float .f64 r5) {} (by unfold math_ldexp; refine eS (fun z => (.float .f64 z : Value)) ?_; subst hr1 hr2 hr3 hr5; exact cond_f h1 (cond_f h2 (cond_f h3 (cond_f h4 (cond_t h5 (cond_t h6 (rfl)))))))
            · exact TC.snr (TL.c 46 (math_Inf 1) (fun r6 => .float .f64 r6) (fun w _ => math_Inf_w 1 w) {} (fun r6 hr6 => TL.r 2 [] [(4, .float .f64 r6)] {} (TL.next rfl (TC.ret (TE.rt (TE.ret [] (.float .f64 r6) {} (by unfold math_ldexp; refine eS (fun z => (.float .f64 z : Value)) ?_; subst hr1 hr2 hr3 hr6; exact cond_f h1 (cond_f h2 (cond_f h3 (cond_f h4 (cond_t h5 (cond_f h6 (rfl)))))))))))))
          · have q5_0 := (dec_f h5)
            refine TC.snr (TL.r 1 [] [(7, .float .f64 4607182418800017408)] {} (TL.ns (TC.sr (TL.r 2 [] [(48, .b (decide ((w64 ((w64 (exp + r3.2)) + (w64 ((kand .i64 (w64 ((r3.1 : Int).fdiv (2 ^ 52))) 2047) - 1023)))) < (-1022))))] {} (TL.next rfl (TC.cond (decide ((w64 ((w64 (exp + r3.2)) + (w64 ((kand .i64 (w64 ((r3.1 : Int).fdiv (2 ^ 52))) 2047) - 1023)))) < (-1022))) rfl Kr (fun h7 => ?_) (fun h7 => ?_)))))))
            · have q7_0 := (dec_t h7)
              refine TC.sr (TL.r 3 [] [(1, .i (w64 ((w64 ((w64 (exp + r3.2)) + (w64 ((kand .i64 (w64 ((r3.1 : Int).fdiv (2 ^ 52))) 2047) - 1023)))) + 53)))] {} (TL.next rfl (TC.region (TL.r 1 [] [(7, .float .f64 4368491638549381120)] {} (TL.nr (TL.r 3 [] [(6, .int .u64 (kandnot .u64 (r3.1 : Int) 9218868437227405312))] {} (TL.nr (TL.r 7 [] [(6, .int .u64 (kor .u64 (kandnot .u64 (r3.1 : Int) 9218868437227405312) (wu64 ((wu64 (w64 ((w64 ((w64 ((w64 (exp + r3.2)) + (w64 ((kand .i64 (w64 ((r3.1 : Int).fdiv (2 ^ 52))) 2047) - 1023)))) + 53)) + 1023))) * 2 ^ 52))))] {} ?_))))))))
              generalize hr7 : kor .u64 (kandnot .u64 (r3.1 : Int) 9218868437227405312) (wu64 ((wu64 (w64 ((w64 ((w64 ((w64 (exp + r3.2)) + (w64 ((kand .i64 (w64 ((r3.1 : Int).fdiv (2 ^ 52))) 2047) - 1023)))) + 53)) + 1023))) * 2 ^ 52)) = r7
              exact TL.nr (TL.r 2 [] [(59, .float .f64 4368491638549381120), (60, .int .u64 r7)] {} (TL.v (callFunc 53 #[.int .u64 r7]) 61 (.float .f64 r7.toNat) (fun w hM => run_f64frombits Tryd.func53 Kr Kr Kr Kr) {} (TL.v (sV (binOp .mul 70 (.float .f64 4368491638549381120) (.float .f64 r7.toNat))) 62 (.float .f64 (fmul 4368491638549381120 r7.toNat)) (fun w hM => run_fmul (by subst hr1 hr2 hr3 hr7; first | exact ld_some (.inr rfl) _ (ld_nor (by omega) (by omega)) | exact ld_some (.inl rfl) _ (ld_den (by omega) (by omega)))) {} (TL.r 5 [] [(4, .float .f64 (fmul 4368491638549381120 r7.toNat))] {} (TL.next rfl (TC.ret (TE.ret [] (.float .f64 (fmul 4368491638549381120 r7.toNat)) {} (by unfold math_ldexp; refine eS (fun z => (.float .f64 z : Value)) ?_; subst hr1 hr2 hr3 hr7; exact cond_f h1 (cond_f h2 (cond_f h3 (cond_f h4 (cond_f h5 (cond_t h7 (rfl))))))))))))))
            · have q7_0 := (dec_f h7)
              exact TC.snr (TL.r 3 [] [(6, .int .u64 (kandnot .u64 (r3.1 : Int) 9218868437227405312))] {} (TL.nr (TL.r 7 [] [(6, .int .u64 (kor .u64 (kandnot .u64 (r3.1 : Int) 9218868437227405312) (wu64 ((wu64 (w64 ((w64 ((w64 (exp + r3.2)) + (w64 ((kand .i64 (w64 ((r3.1 : Int).fdiv (2 ^ 52))) 2047) - 1023)))) + 1023))) * 2 ^ 52))))] {} (TL.nr (TL.r 2 [] [(59, .float .f64 4607182418800017408), (60, .int .u64 (kor .u64 (kandnot .u64 (r3.1 : Int) 9218868437227405312) (wu64 ((wu64 (w64 ((w64 ((w64 (exp + r3.2)) + (w64 ((kand .i64 (w64 ((r3.1 : Int).fdiv (2 ^ 52))) 2047) - 1023)))) + 1023))) * 2 ^ 52))))] {} (TL.v (callFunc 53 #[.int .u64 (kor .u64 (kandnot .u64 (r3.1 : Int) 9218868437227405312) (wu64 ((wu64 (w64 ((w64 ((w64 (exp + r3.2)) + (w64 ((kand .i64 (w64 ((r3.1 : Int).fdiv (2 ^ 52))) 2047) - 1023)))) + 1023))) * 2 ^ 52)))]) 61 (.float .f64 ((kor .u64 (kandnot .u64 (r3.1 : Int) 9218868437227405312) (wu64 ((wu64 (w64 ((w64 ((w64 (exp + r3.2)) + (w64 ((kand .i64 (w64 ((r3.1 : Int).fdiv (2 ^ 52))) 2047) - 1023)))) + 1023))) * 2 ^ 52))).toNat)) (fun w hM => run_f64frombits Tryd.func53 Kr Kr Kr Kr) {} (TL.v (sV (binOp .mul 70 (.float .f64 4607182418800017408) (.float .f64 ((kor .u64 (kandnot .u64 (r3.1 : Int) 9218868437227405312) (wu64 ((wu64 (w64 ((w64 ((w64 (exp + r3.2)) + (w64 ((kand .i64 (w64 ((r3.1 : Int).fdiv (2 ^ 52))) 2047) - 1023)))) + 1023))) * 2 ^ 52))).toNat)))) 62 (.float .f64 (fmul 4607182418800017408 ((kor .u64 (kandnot .u64 (r3.1 : Int) 9218868437227405312) (wu64 ((wu64 (w64 ((w64 ((w64 (exp + r3.2)) + (w64 ((kand .i64 (w64 ((r3.1 : Int).fdiv (2 ^ 52))) 2047) - 1023)))) + 1023))) * 2 ^ 52))).toNat))) (fun w hM => run_fmul (by subst hr1 hr2 hr3; first | exact ld_some (.inr rfl) _ (ld_nor (by omega) (by omega)) | exact ld_some (.inl rfl) _ (ld_den (by omega) (by omega)))) {} (TL.r 5 [] [(4, .float .f64 (fmul 4607182418800017408 ((kor .u64 (kandnot .u64 (r3.1 : Int) 9218868437227405312) (wu64 ((wu64 (w64 ((w64 ((w64 (exp + r3.2)) + (w64 ((kand .i64 (w64 ((r3.1 : Int).fdiv (2 ^ 52))) 2047) - 1023)))) + 1023))) * 2 ^ 52))).toNat)))] {} (TL.next rfl (TC.ret (TE.ret [] (.float .f64 (fmul 4607182418800017408 ((kor .u64 (kandnot .u64 (r3.1 : Int) 9218868437227405312) (wu64 ((wu64 (w64 ((w64 ((w64 (exp + r3.2)) + (w64 ((kand .i64 (w64 ((r3.1 : Int).fdiv (2 ^ 52))) 2047) - 1023)))) + 1023))) * 2 ^ 52))).toNat))) {} (by unfold math_ldexp; refine eS (fun z => (.float .f64 z : Value)) ?_; subst hr1 hr2 hr3; exact cond_f h1 (cond_f h2 (cond_f h3 (cond_f h4 (cond_f h5 (cond_f h7 (rfl))))))))))))))))))

def math_Ldexp (frac : Nat) (exp : Int) : Nat :=
  let r1 := math_ldexp frac exp
  r1

set_option maxRecDepth 100000 in
theorem math_Ldexp_w (frac : Nat) (exp : Int) (w : World) (hx : frac < 18446744073709551616) : Calls Tryd.prog 29 #[.float .f64 frac, .int .i64 exp] w (Ret w (.float .f64 (math_Ldexp frac exp))) := by
  exact calls_intro (vs := [.float .f64 frac, .i exp]) (w := w) Tryd.func29 rfl Tryd.ntmps29 rfl (TC.sr (TL.r 1 [] [(4, .float .f64 0)] {} (TL.ns (TC.condF rfl Kr (TC.snr (TL.r 2 [] [(8, .float .f64 frac), (9, .i exp)] {} (TL.c 10 (math_ldexp frac exp) (fun r1 => .float .f64 r1) (fun w _ => math_ldexp_w frac exp w hx) {} (fun r1 hr1 => TL.r 4 [] [(4, .float .f64 r1)] {} (TL.next rfl (TC.ret (TE.ret [] (.float .f64 r1) {} (by unfold math_Ldexp; refine eS (fun z => (.float .f64 z : Value)) ?_; subst hr1; exact rfl))))))))))))

def bits_FromFixed (n : Int) (scale : Int) : Int × Int :=
  cond ((decide (scale < 0)) || (decide (scale > 60))) (
    (0, 4)) (
    let r1 := math_Ldexp (dbl n) (w64 (0 - scale))
    ((r1 : Int), 0))

set_option maxRecDepth 100000 in
theorem bits_FromFixed_w (n : Int) (scale : Int) (w : World) : Calls Tryd.prog 15 #[.int .i64 n, .int .i64 scale] w (Ret w (.tuple #[.int .u64 ((bits_FromFixed n scale).1), .int .i64 ((bits_FromFixed n scale).2)])) := by
  refine calls_intro (vs := [.i n, .i scale]) (w := w) Tryd.func15 rfl Tryd.ntmps15 rfl (TC.sr (TL.r 2 [] [(4, .int .u64 0), (5, .i 0)] {} (TL.ns (TC.sr (TL.r 3 [] [(8, .b (decide (scale < 0)))] {} (TL.j 8 (decide (scale < 0)) 6 [] [] (fun β => [(11, .b (β || (decide (scale > 60))))]) Kr {} {} (TL.next rfl (TC.cond ((decide (scale < 0)) || (decide (scale > 60))) rfl Kr (fun h1 => ?_) (fun h1 => ?_)))))))))
  · exact TC.sr (TL.r 2 [] [(4, .int .u64 0), (5, .i 4)] {} (TL.next rfl (TC.ret (TE.rt (TE.ret [] (.tuple #[.int .u64 0, .i 4]) {} (by unfold bits_FromFixed; refine eS (a := (0, 4)) (fun (z : Int × Int) => (.tuple #[.int .u64 z.1, .i z.2] : Value)) ?_; exact cond_t h1 (rfl)))))))
  · exact TC.snr (TL.r 4 [] [(13, .float .f64 (dbl n)), (15, .i (w64 (0 - scale)))] {} (TL.c 16 (math_Ldexp (dbl n) (w64 (0 - scale))) (fun r1 => .float .f64 r1) (fun w _ => math_Ldexp_w (dbl n) (w64 (0 - scale)) w (dbl_lt _)) {} (fun r1 hr1 => TL.v (callFunc 28 #[.float .f64 r1]) 17 (.int .u64 (r1 : Int)) (fun w hM => run_f64bits Tryd.func28 Kr Kr Kr Kr) {} (TL.r 8 [] [(4, .int .u64 (r1 : Int)), (5, .i 0)] {} (TL.next rfl (TC.ret (TE.ret [] (.tuple #[.int .u64 (r1 : Int), .i 0]) {} (by unfold bits_FromFixed; refine eS (a := ((r1 : Int), 0)) (fun (z : Int × Int) => (.tuple #[.int .u64 z.1, .i z.2] : Value)) ?_; subst hr1; exact cond_f h1 (rfl)))))))))

def bits_exponent (b_ : Int) : Int :=
  w64 (kand .u64 (b_.fdiv (2 ^ 52)) 2047)

set_option maxRecDepth 100000 in
theorem bits_exponent_w (b_ : Int) (w : World) : Calls Tryd.prog 30 #[.int .u64 b_] w (Ret w (.int .i64 (bits_exponent b_))) := by
  exact calls_intro (vs := [.int .u64 b_]) (w := w) Tryd.func30 rfl Tryd.ntmps30 rfl (TC.sr (TL.r 1 [] [(2, .i 0)] {} (TL.nr (TL.r 5 [] [(2, .i (w64 (kand .u64 (b_.fdiv (2 ^ 52)) 2047)))] {} (TL.next rfl (TC.ret (TE.ret [] (.i (w64 (kand .u64 (b_.fdiv (2 ^ 52)) 2047))) {} (by unfold bits_exponent; refine eS (fun z => (.i z : Value)) ?_; exact rfl))))))))

def bits_fraction (b_ : Int) : Int :=
  kand .u64 b_ 4503599627370495

set_option maxRecDepth 100000 in
theorem bits_fraction_w (b_ : Int) (w : World) : Calls Tryd.prog 31 #[.int .u64 b_] w (Ret w (.int .u64 (bits_fraction b_))) := by
  exact calls_intro (vs := [.int .u64 b_]) (w := w) Tryd.func31 rfl Tryd.ntmps31 rfl (TC.sr (TL.r 1 [] [(2, .int .u64 0)] {} (TL.nr (TL.r 3 [] [(2, .int .u64 (kand .u64 b_ 4503599627370495))] {} (TL.next rfl (TC.ret (TE.ret [] (.int .u64 (kand .u64 b_ 4503599627370495)) {} (by unfold bits_fraction; refine eS (fun z => (.int .u64 z : Value)) ?_; exact rfl))))))))

end Go.Sky
