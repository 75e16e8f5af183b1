/- Functions of the program, each with the Lean function that it computes. Conditions: none. -/
import Derived.Test.YtakjcphknccdnaaDoorRows
import Derived.Test.YtakjcphknccdnaaDoorEqb
import Derived.Test.YtakjcphknccdnaaDoorFct
import Derived.Test.YtakjcphknccdnaaDoorFacts
import Derived.Test.YtakjcphknccdnaaDoorPass
import Derived.Test.YtakjcphknccdnaaDoorFlob
namespace Go.Sky
open Go Go.Eng Go.Proofs
def math_IsNaN (f : Nat) : Bool :=
  fne f f

set_option maxRecDepth 100000 in
theorem math_IsNaN_w (f : Nat) (w : World) : Calls Tryd.prog 69 #[.float .f64 f] w (Ret w (.bool (math_IsNaN f))) := by
  refine calls_intro (vs := [.float .f64 f]) (w := w) Tryd.func69 rfl Tryd.ntmps69 rfl ?_
  refine TC.weak [(0, .float .f64 f)] (by kernel_rfl) ?_
  refine TC.seq ?_
  refine TC.region ?_
  refine TL.run 1 [] [(0, .float .f64 f)] rfl ⟨by kernel_rfl, by kernel_rfl⟩ ?_
  refine TL.next rfl ?_
  refine TC.seq ?_
  refine TC.region ?_
  refine TL.run 4 [] [(2, .bool (fne f f))] rfl ⟨by kernel_rfl, by kernel_rfl⟩ ?_
  refine TL.next rfl ?_
  refine TC.ret ?_
  have e : math_IsNaN f = (fne f f) := by unfold math_IsNaN; exact rfl
  exact TE.ret [] (.bool (fne f f)) ⟨by kernel_rfl, by kernel_rfl⟩ (by rw [e]; first | done | kernel_rfl)

def math_Abs (x : Nat) : Nat :=
  (kandnot .u64 (x : Int) 9223372036854775808).toNat

set_option maxRecDepth 100000 in
theorem math_Abs_w (x : Nat) (w : World) : Calls Tryd.prog 80 #[.float .f64 x] w (Ret w (.float .f64 (math_Abs x))) := by
  refine calls_intro (vs := [.float .f64 x]) (w := w) Tryd.func80 rfl Tryd.ntmps80 rfl ?_
  refine TC.weak [(0, .float .f64 x)] (by kernel_rfl) ?_
  refine TC.seq ?_
  refine TC.region ?_
  refine TL.run 1 [] [(0, .float .f64 x)] rfl ⟨by kernel_rfl, by kernel_rfl⟩ ?_
  refine TL.next rfl ?_
  refine TC.seq ?_
  refine TC.region ?_
  refine TL.run 1 [] [(3, .float .f64 x)] rfl ⟨by kernel_rfl, by kernel_rfl⟩ ?_
  refine TL.val (callFunc 83 #[.float .f64 x]) (some 4) (.int .u64 (x : Int)) [(4, .int .u64 (x : Int))] (fun w hM => run_f64bits Tryd.func83 (by kernel_rfl) (by kernel_rfl) (by kernel_rfl) (by kernel_rfl)) (by kernel_rfl) (by kernel_rfl) ?_
  refine TL.run 3 [] [(5, .int .u64 (kandnot .u64 (x : Int) 9223372036854775808))] rfl ⟨by kernel_rfl, by kernel_rfl⟩ ?_
  refine TL.val (callFunc 82 #[.int .u64 (kandnot .u64 (x : Int) 9223372036854775808)]) (some 6) (.float .f64 ((kandnot .u64 (x : Int) 9223372036854775808).toNat)) [(6, .float .f64 ((kandnot .u64 (x : Int) 9223372036854775808).toNat))] (fun w hM => run_f64frombits Tryd.func82 (by kernel_rfl) (by kernel_rfl) (by kernel_rfl) (by kernel_rfl)) (by kernel_rfl) (by kernel_rfl) ?_
  refine TL.run 5 [] [(2, .float .f64 ((kandnot .u64 (x : Int) 9223372036854775808).toNat))] rfl ⟨by kernel_rfl, by kernel_rfl⟩ ?_
  refine TL.next rfl ?_
  refine TC.ret ?_
  have e : math_Abs x = ((kandnot .u64 (x : Int) 9223372036854775808).toNat) := by unfold math_Abs; exact rfl
  exact TE.ret [] (.float .f64 ((kandnot .u64 (x : Int) 9223372036854775808).toNat)) ⟨by kernel_rfl, by kernel_rfl⟩ (by rw [e]; first | done | kernel_rfl)

theorem fgt_abs {f r : Nat} [h : Bd 21 f] (hl : f < 18446744073709551616) (hr : math_Abs f = r) : fgt r 9218868437227405311 = false := by
  subst hr
  have e : math_Abs f = f % 9223372036854775808 := by
    unfold math_Abs
    rw [andnot_sign hl]; rfl
  rw [e]
  have := bd_mod (x := f % 9223372036854775808) (y := f) (e := 21) (Nat.mod_mod _ _)
  exact fgt_max (e := 21)

set_option maxRecDepth 100000 in
theorem math_IsInf_w (f : Nat) (sign : Int) (w : World) (hM : Sat ⟨w, feet []⟩ [] w) (hs : sign = 0) (hb : Bd 21 f) (hl : f < 18446744073709551616) : Calls Tryd.prog 70 #[.float .f64 f, .int .i64 sign] w (RetM (Γ := Bool) ⟨w, feet []⟩ (fun g => .bool g) (fun g => [.inr (Fact (g = false))])) := by
  refine calls_introM (w0 := ⟨w, feet []⟩) (vs := [.float .f64 f, .int .i64 sign]) hM Tryd.func70 rfl Tryd.ntmps70 rfl ?_
  refine TC.weak [(0, .float .f64 f), (1, .int .i64 sign)] (by kernel_rfl) ?_
  refine TC.seq ?_
  refine TC.region ?_
  refine TL.run 1 [] [(0, .float .f64 f), (1, .int .i64 sign)] rfl ⟨by kernel_rfl, by kernel_rfl⟩ ?_
  refine TL.next rfl ?_
  refine TC.seq ?_
  refine TC.seq ?_
  refine TC.region ?_
  refine TL.run 2 [] [(0, .float .f64 f), (1, .int .i64 sign), (6, .bool (sign == 0))] rfl ⟨by kernel_rfl, by kernel_rfl⟩ ?_
  refine TL.next rfl ?_
  refine TC.cond (sign == 0) rfl (by kernel_rfl) (fun h1 => ?_) (fun h1 => ?_)
  · refine TC.region ?_
    refine TL.run 1 [] [(7, .float .f64 f)] rfl ⟨by kernel_rfl, by kernel_rfl⟩ ?_
    refine TL.call (some 8) [(8, .float .f64 (math_Abs f))] (fun w _ => math_Abs_w f w) (by kernel_rfl) (by kernel_rfl) ?_
    generalize hr1 : math_Abs f = r1
    refine TL.run 3 [] [(0, .float .f64 r1)] rfl ⟨by kernel_rfl, by kernel_rfl⟩ ?_
    refine TL.next rfl ?_
    refine TC.seq ?_
    refine TC.region ?_
    refine TL.run 3 [] [(4, .bool (fgt r1 9218868437227405311))] rfl ⟨by kernel_rfl, by kernel_rfl⟩ ?_
    refine TL.next rfl ?_
    refine TC.ret ?_
    exact TE.retM (.inl rfl) (fgt r1 9218868437227405311) [] (.bool (fgt r1 9218868437227405311)) ⟨by kernel_rfl, by kernel_rfl⟩ rfl (fun _ hM => (hM.sub (.slnil)).fact (by have q0_ := (beq_t h1); subst hr1; (try dsimp only); first | exact fgt_abs hl rfl))
  · exact ((by subst hs; cases h1) : False).elim

def math_NaN : Nat :=
  9221120237041090561

set_option maxRecDepth 100000 in
theorem math_NaN_w (w : World) : Calls Tryd.prog 72 #[] w (Ret w (.float .f64 (math_NaN))) := by
  refine calls_intro (vs := []) (w := w) Tryd.func72 rfl Tryd.ntmps72 rfl ?_
  refine TC.weak [] (by kernel_rfl) ?_
  refine TC.seq ?_
  refine TC.region ?_
  refine TL.run 1 [] [] rfl ⟨by kernel_rfl, by kernel_rfl⟩ ?_
  refine TL.next rfl ?_
  refine TC.seq ?_
  refine TC.region ?_
  refine TL.val (callFunc 82 #[.int .u64 9221120237041090561]) (some 1) (.float .f64 9221120237041090561) [(1, .float .f64 9221120237041090561)] (fun w hM => run_f64frombits Tryd.func82 (by kernel_rfl) (by kernel_rfl) (by kernel_rfl) (by kernel_rfl)) (by kernel_rfl) (by kernel_rfl) ?_
  refine TL.run 2 [] [(0, .float .f64 9221120237041090561)] rfl ⟨by kernel_rfl, by kernel_rfl⟩ ?_
  refine TL.next rfl ?_
  refine TC.ret ?_
  have e : math_NaN = 9221120237041090561 := by unfold math_NaN; exact rfl
  exact TE.ret [] (.float .f64 9221120237041090561) ⟨by kernel_rfl, by kernel_rfl⟩ (by rw [e]; first | done | kernel_rfl)

def math_Signbit (x : Nat) : Bool :=
  decide ((w64 (x : Int)) < 0)

set_option maxRecDepth 100000 in
theorem math_Signbit_w (x : Nat) (w : World) : Calls Tryd.prog 73 #[.float .f64 x] w (Ret w (.bool (math_Signbit x))) := by
  refine calls_intro (vs := [.float .f64 x]) (w := w) Tryd.func73 rfl Tryd.ntmps73 rfl ?_
  refine TC.weak [(0, .float .f64 x)] (by kernel_rfl) ?_
  refine TC.seq ?_
  refine TC.region ?_
  refine TL.run 1 [] [(0, .float .f64 x)] rfl ⟨by kernel_rfl, by kernel_rfl⟩ ?_
  refine TL.next rfl ?_
  refine TC.seq ?_
  refine TC.region ?_
  refine TL.run 1 [] [(3, .float .f64 x)] rfl ⟨by kernel_rfl, by kernel_rfl⟩ ?_
  refine TL.val (callFunc 83 #[.float .f64 x]) (some 4) (.int .u64 (x : Int)) [(4, .int .u64 (x : Int))] (fun w hM => run_f64bits Tryd.func83 (by kernel_rfl) (by kernel_rfl) (by kernel_rfl) (by kernel_rfl)) (by kernel_rfl) (by kernel_rfl) ?_
  refine TL.run 5 [] [(2, .bool (decide ((w64 (x : Int)) < 0)))] rfl ⟨by kernel_rfl, by kernel_rfl⟩ ?_
  refine TL.next rfl ?_
  refine TC.ret ?_
  have e : math_Signbit x = (decide ((w64 (x : Int)) < 0)) := by unfold math_Signbit; exact rfl
  exact TE.ret [] (.bool (decide ((w64 (x : Int)) < 0))) ⟨by kernel_rfl, by kernel_rfl⟩ (by rw [e]; first | done | kernel_rfl)

def math_Copysign (f : Nat) (sign : Nat) : Nat :=
  (kor .u64 (kandnot .u64 (f : Int) 9223372036854775808) (kand .u64 (sign : Int) 9223372036854775808)).toNat

set_option maxRecDepth 100000 in
theorem math_Copysign_w (f : Nat) (sign : Nat) (w : World) : Calls Tryd.prog 74 #[.float .f64 f, .float .f64 sign] w (Ret w (.float .f64 (math_Copysign f sign))) := by
  refine calls_intro (vs := [.float .f64 f, .float .f64 sign]) (w := w) Tryd.func74 rfl Tryd.ntmps74 rfl ?_
  refine TC.weak [(0, .float .f64 f), (1, .float .f64 sign)] (by kernel_rfl) ?_
  refine TC.seq ?_
  refine TC.region ?_
  refine TL.run 1 [] [(0, .float .f64 f), (1, .float .f64 sign)] rfl ⟨by kernel_rfl, by kernel_rfl⟩ ?_
  refine TL.next rfl ?_
  refine TC.seq ?_
  refine TC.region ?_
  refine TL.run 1 [] [(1, .float .f64 sign), (5, .float .f64 f)] rfl ⟨by kernel_rfl, by kernel_rfl⟩ ?_
  refine TL.val (callFunc 83 #[.float .f64 f]) (some 6) (.int .u64 (f : Int)) [(1, .float .f64 sign), (6, .int .u64 (f : Int))] (fun w hM => run_f64bits Tryd.func83 (by kernel_rfl) (by kernel_rfl) (by kernel_rfl) (by kernel_rfl)) (by kernel_rfl) (by kernel_rfl) ?_
  refine TL.run 4 [] [(7, .int .u64 (kandnot .u64 (f : Int) 9223372036854775808)), (8, .float .f64 sign)] rfl ⟨by kernel_rfl, by kernel_rfl⟩ ?_
  refine TL.val (callFunc 83 #[.float .f64 sign]) (some 9) (.int .u64 (sign : Int)) [(7, .int .u64 (kandnot .u64 (f : Int) 9223372036854775808)), (9, .int .u64 (sign : Int))] (fun w hM => run_f64bits Tryd.func83 (by kernel_rfl) (by kernel_rfl) (by kernel_rfl) (by kernel_rfl)) (by kernel_rfl) (by kernel_rfl) ?_
  refine TL.run 7 [] [(11, .int .u64 (kor .u64 (kandnot .u64 (f : Int) 9223372036854775808) (kand .u64 (sign : Int) 9223372036854775808)))] rfl ⟨by kernel_rfl, by kernel_rfl⟩ ?_
  refine TL.val (callFunc 82 #[.int .u64 (kor .u64 (kandnot .u64 (f : Int) 9223372036854775808) (kand .u64 (sign : Int) 9223372036854775808))]) (some 12) (.float .f64 ((kor .u64 (kandnot .u64 (f : Int) 9223372036854775808) (kand .u64 (sign : Int) 9223372036854775808)).toNat)) [(12, .float .f64 ((kor .u64 (kandnot .u64 (f : Int) 9223372036854775808) (kand .u64 (sign : Int) 9223372036854775808)).toNat))] (fun w hM => run_f64frombits Tryd.func82 (by kernel_rfl) (by kernel_rfl) (by kernel_rfl) (by kernel_rfl)) (by kernel_rfl) (by kernel_rfl) ?_
  refine TL.run 9 [] [(4, .float .f64 ((kor .u64 (kandnot .u64 (f : Int) 9223372036854775808) (kand .u64 (sign : Int) 9223372036854775808)).toNat))] rfl ⟨by kernel_rfl, by kernel_rfl⟩ ?_
  refine TL.next rfl ?_
  refine TC.ret ?_
  have e : math_Copysign f sign = ((kor .u64 (kandnot .u64 (f : Int) 9223372036854775808) (kand .u64 (sign : Int) 9223372036854775808)).toNat) := by unfold math_Copysign; exact rfl
  exact TE.ret [] (.float .f64 ((kor .u64 (kandnot .u64 (f : Int) 9223372036854775808) (kand .u64 (sign : Int) 9223372036854775808)).toNat)) ⟨by kernel_rfl, by kernel_rfl⟩ (by rw [e]; first | done | kernel_rfl)

set_option maxRecDepth 100000 in
theorem math_xatan_w (x : Nat) (w : World) (hM : Sat ⟨w, feet []⟩ [] w) (hx : Bd 3 x) : Calls Tryd.prog 92 #[.float .f64 x] w (RetM (Γ := Nat) ⟨w, feet []⟩ (fun g => .float .f64 g) (fun g => [.inr (Fact (Bd 40 g))])) := by
  refine calls_introM (w0 := ⟨w, feet []⟩) (vs := [.float .f64 x]) hM Tryd.func92 rfl Tryd.ntmps92 rfl ?_
  refine TC.weak [(0, .float .f64 x)] (by kernel_rfl) ?_
  refine TC.seq ?_
  refine TC.region ?_
  refine TL.run 1 [] [(0, .float .f64 x)] rfl ⟨by kernel_rfl, by kernel_rfl⟩ ?_
  refine TL.next rfl ?_
  refine TC.seq ?_
  refine TC.region ?_
  refine TL.run 2 [] [(0, .float .f64 x), (4, .float .f64 x), (5, .float .f64 x)] rfl ⟨by kernel_rfl, by kernel_rfl⟩ ?_
  refine TL.val (sV (binOp .mul 72 (.float .f64 x) (.float .f64 x))) (some 6) (.float .f64 (fmul x x)) [(0, .float .f64 x), (6, .float .f64 (fmul x x))] (fun w hM => run_fmul (by (try have bz_ := po_let ‹fmul x x = _›); (try have bq_ := bd_let ‹fdiv _ _ = _›); exact fmS)) (by kernel_rfl) (by kernel_rfl) ?_
  refine TL.run 4 [] [(0, .float .f64 x), (3, .float .f64 (fmul x x))] rfl ⟨by kernel_rfl, by kernel_rfl⟩ ?_
  generalize hr1 : fmul x x = r1
  refine TL.next rfl ?_
  refine TC.seq ?_
  refine TC.region ?_
  refine TL.run 2 [] [(0, .float .f64 x), (3, .float .f64 r1), (7, .float .f64 r1), (8, .float .f64 r1)] rfl ⟨by kernel_rfl, by kernel_rfl⟩ ?_
  refine TL.val (sV (binOp .mul 72 (.float .f64 13829429103926125972) (.float .f64 r1))) (some 9) (.float .f64 (fmul 13829429103926125972 r1)) [(0, .float .f64 x), (3, .float .f64 r1), (7, .float .f64 r1), (9, .float .f64 (fmul 13829429103926125972 r1))] (fun w hM => run_fmul (by (try have bz_ := po_let ‹fmul x x = _›); (try have bq_ := bd_let ‹fdiv _ _ = _›); exact fmS)) (by kernel_rfl) (by kernel_rfl) ?_
  refine TL.val (sV (binOp .add 72 (.float .f64 (fmul 13829429103926125972 r1)) (.float .f64 13848613196940411002))) (some 10) (.float .f64 (fadd (fmul 13829429103926125972 r1) 13848613196940411002)) [(0, .float .f64 x), (3, .float .f64 r1), (7, .float .f64 r1), (10, .float .f64 (fadd (fmul 13829429103926125972 r1) 13848613196940411002))] (fun w hM => run_fadd (by (try have bz_ := po_let ‹fmul x x = _›); (try have bq_ := bd_let ‹fdiv _ _ = _›); exact faS)) (by kernel_rfl) (by kernel_rfl) ?_
  refine TL.run 5 [] [(0, .float .f64 x), (3, .float .f64 r1), (7, .float .f64 r1), (10, .float .f64 (fadd (fmul 13829429103926125972 r1) 13848613196940411002)), (11, .float .f64 r1)] rfl ⟨by kernel_rfl, by kernel_rfl⟩ ?_
  refine TL.val (sV (binOp .mul 72 (.float .f64 (fadd (fmul 13829429103926125972 r1) 13848613196940411002)) (.float .f64 r1))) (some 12) (.float .f64 (fmul (fadd (fmul 13829429103926125972 r1) 13848613196940411002) r1)) [(0, .float .f64 x), (3, .float .f64 r1), (7, .float .f64 r1), (12, .float .f64 (fmul (fadd (fmul 13829429103926125972 r1) 13848613196940411002) r1))] (fun w hM => run_fmul (by (try have bz_ := po_let ‹fmul x x = _›); (try have bq_ := bd_let ‹fdiv _ _ = _›); exact fmS)) (by kernel_rfl) (by kernel_rfl) ?_
  refine TL.val (sV (binOp .add 72 (.float .f64 (fmul (fadd (fmul 13829429103926125972 r1) 13848613196940411002) r1)) (.float .f64 13858350711815275123))) (some 13) (.float .f64 (fadd (fmul (fadd (fmul 13829429103926125972 r1) 13848613196940411002) r1) 13858350711815275123)) [(0, .float .f64 x), (3, .float .f64 r1), (7, .float .f64 r1), (13, .float .f64 (fadd (fmul (fadd (fmul 13829429103926125972 r1) 13848613196940411002) r1) 13858350711815275123))] (fun w hM => run_fadd (by (try have bz_ := po_let ‹fmul x x = _›); (try have bq_ := bd_let ‹fdiv _ _ = _›); exact faS)) (by kernel_rfl) (by kernel_rfl) ?_
  refine TL.run 8 [] [(0, .float .f64 x), (3, .float .f64 r1), (7, .float .f64 r1), (13, .float .f64 (fadd (fmul (fadd (fmul 13829429103926125972 r1) 13848613196940411002) r1) 13858350711815275123)), (14, .float .f64 r1)] rfl ⟨by kernel_rfl, by kernel_rfl⟩ ?_
  refine TL.val (sV (binOp .mul 72 (.float .f64 (fadd (fmul (fadd (fmul 13829429103926125972 r1) 13848613196940411002) r1) 13858350711815275123)) (.float .f64 r1))) (some 15) (.float .f64 (fmul (fadd (fmul (fadd (fmul 13829429103926125972 r1) 13848613196940411002) r1) 13858350711815275123) r1)) [(0, .float .f64 x), (3, .float .f64 r1), (7, .float .f64 r1), (15, .float .f64 (fmul (fadd (fmul (fadd (fmul 13829429103926125972 r1) 13848613196940411002) r1) 13858350711815275123) r1))] (fun w hM => run_fmul (by (try have bz_ := po_let ‹fmul x x = _›); (try have bq_ := bd_let ‹fdiv _ _ = _›); exact fmS)) (by kernel_rfl) (by kernel_rfl) ?_
  refine TL.val (sV (binOp .add 72 (.float .f64 (fmul (fadd (fmul (fadd (fmul 13829429103926125972 r1) 13848613196940411002) r1) 13858350711815275123) r1)) (.float .f64 13861719834326579749))) (some 16) (.float .f64 (fadd (fmul (fadd (fmul (fadd (fmul 13829429103926125972 r1) 13848613196940411002) r1) 13858350711815275123) r1) 13861719834326579749)) [(0, .float .f64 x), (3, .float .f64 r1), (7, .float .f64 r1), (16, .float .f64 (fadd (fmul (fadd (fmul (fadd (fmul 13829429103926125972 r1) 13848613196940411002) r1) 13858350711815275123) r1) 13861719834326579749))] (fun w hM => run_fadd (by (try have bz_ := po_let ‹fmul x x = _›); (try have bq_ := bd_let ‹fdiv _ _ = _›); exact faS)) (by kernel_rfl) (by kernel_rfl) ?_
  refine TL.run 11 [] [(0, .float .f64 x), (3, .float .f64 r1), (7, .float .f64 r1), (16, .float .f64 (fadd (fmul (fadd (fmul (fadd (fmul 13829429103926125972 r1) 13848613196940411002) r1) 13858350711815275123) r1) 13861719834326579749)), (17, .float .f64 r1)] rfl ⟨by kernel_rfl, by kernel_rfl⟩ ?_
  refine TL.val (sV (binOp .mul 72 (.float .f64 (fadd (fmul (fadd (fmul (fadd (fmul 13829429103926125972 r1) 13848613196940411002) r1) 13858350711815275123) r1) 13861719834326579749)) (.float .f64 r1))) (some 18) (.float .f64 (fmul (fadd (fmul (fadd (fmul (fadd (fmul 13829429103926125972 r1) 13848613196940411002) r1) 13858350711815275123) r1) 13861719834326579749) r1)) [(0, .float .f64 x), (3, .float .f64 r1), (7, .float .f64 r1), (18, .float .f64 (fmul (fadd (fmul (fadd (fmul (fadd (fmul 13829429103926125972 r1) 13848613196940411002) r1) 13858350711815275123) r1) 13861719834326579749) r1))] (fun w hM => run_fmul (by (try have bz_ := po_let ‹fmul x x = _›); (try have bq_ := bd_let ‹fdiv _ _ = _›); exact fmS)) (by kernel_rfl) (by kernel_rfl) ?_
  refine TL.val (sV (binOp .add 72 (.float .f64 (fmul (fadd (fmul (fadd (fmul (fadd (fmul 13829429103926125972 r1) 13848613196940411002) r1) 13858350711815275123) r1) 13861719834326579749) r1)) (.float .f64 13857635882265799822))) (some 19) (.float .f64 (fadd (fmul (fadd (fmul (fadd (fmul (fadd (fmul 13829429103926125972 r1) 13848613196940411002) r1) 13858350711815275123) r1) 13861719834326579749) r1) 13857635882265799822)) [(0, .float .f64 x), (3, .float .f64 r1), (7, .float .f64 r1), (19, .float .f64 (fadd (fmul (fadd (fmul (fadd (fmul (fadd (fmul 13829429103926125972 r1) 13848613196940411002) r1) 13858350711815275123) r1) 13861719834326579749) r1) 13857635882265799822))] (fun w hM => run_fadd (by (try have bz_ := po_let ‹fmul x x = _›); (try have bq_ := bd_let ‹fdiv _ _ = _›); exact faS)) (by kernel_rfl) (by kernel_rfl) ?_
  refine TL.val (sV (binOp .mul 72 (.float .f64 r1) (.float .f64 (fadd (fmul (fadd (fmul (fadd (fmul (fadd (fmul 13829429103926125972 r1) 13848613196940411002) r1) 13858350711815275123) r1) 13861719834326579749) r1) 13857635882265799822)))) (some 20) (.float .f64 (fmul r1 (fadd (fmul (fadd (fmul (fadd (fmul (fadd (fmul 13829429103926125972 r1) 13848613196940411002) r1) 13858350711815275123) r1) 13861719834326579749) r1) 13857635882265799822))) [(0, .float .f64 x), (3, .float .f64 r1), (20, .float .f64 (fmul r1 (fadd (fmul (fadd (fmul (fadd (fmul (fadd (fmul 13829429103926125972 r1) 13848613196940411002) r1) 13858350711815275123) r1) 13861719834326579749) r1) 13857635882265799822)))] (fun w hM => run_fmul (by (try have bz_ := po_let ‹fmul x x = _›); (try have bq_ := bd_let ‹fdiv _ _ = _›); exact fmS)) (by kernel_rfl) (by kernel_rfl) ?_
  refine TL.run 15 [] [(0, .float .f64 x), (3, .float .f64 r1), (20, .float .f64 (fmul r1 (fadd (fmul (fadd (fmul (fadd (fmul (fadd (fmul 13829429103926125972 r1) 13848613196940411002) r1) 13858350711815275123) r1) 13861719834326579749) r1) 13857635882265799822))), (21, .float .f64 r1)] rfl ⟨by kernel_rfl, by kernel_rfl⟩ ?_
  refine TL.val (sV (binOp .add 72 (.float .f64 r1) (.float .f64 4627690253511319612))) (some 22) (.float .f64 (fadd r1 4627690253511319612)) [(0, .float .f64 x), (3, .float .f64 r1), (20, .float .f64 (fmul r1 (fadd (fmul (fadd (fmul (fadd (fmul (fadd (fmul 13829429103926125972 r1) 13848613196940411002) r1) 13858350711815275123) r1) 13861719834326579749) r1) 13857635882265799822))), (22, .float .f64 (fadd r1 4627690253511319612))] (fun w hM => run_fadd (by (try have bz_ := po_let ‹fmul x x = _›); (try have bq_ := bd_let ‹fdiv _ _ = _›); exact faS)) (by kernel_rfl) (by kernel_rfl) ?_
  refine TL.run 17 [] [(0, .float .f64 x), (3, .float .f64 r1), (20, .float .f64 (fmul r1 (fadd (fmul (fadd (fmul (fadd (fmul (fadd (fmul 13829429103926125972 r1) 13848613196940411002) r1) 13858350711815275123) r1) 13861719834326579749) r1) 13857635882265799822))), (22, .float .f64 (fadd r1 4627690253511319612)), (23, .float .f64 r1)] rfl ⟨by kernel_rfl, by kernel_rfl⟩ ?_
  refine TL.val (sV (binOp .mul 72 (.float .f64 (fadd r1 4627690253511319612)) (.float .f64 r1))) (some 24) (.float .f64 (fmul (fadd r1 4627690253511319612) r1)) [(0, .float .f64 x), (3, .float .f64 r1), (20, .float .f64 (fmul r1 (fadd (fmul (fadd (fmul (fadd (fmul (fadd (fmul 13829429103926125972 r1) 13848613196940411002) r1) 13858350711815275123) r1) 13861719834326579749) r1) 13857635882265799822))), (24, .float .f64 (fmul (fadd r1 4627690253511319612) r1))] (fun w hM => run_fmul (by (try have bz_ := po_let ‹fmul x x = _›); (try have bq_ := bd_let ‹fdiv _ _ = _›); exact fmS)) (by kernel_rfl) (by kernel_rfl) ?_
  refine TL.val (sV (binOp .add 72 (.float .f64 (fmul (fadd r1 4627690253511319612) r1)) (.float .f64 4640010388282866213))) (some 25) (.float .f64 (fadd (fmul (fadd r1 4627690253511319612) r1) 4640010388282866213)) [(0, .float .f64 x), (3, .float .f64 r1), (20, .float .f64 (fmul r1 (fadd (fmul (fadd (fmul (fadd (fmul (fadd (fmul 13829429103926125972 r1) 13848613196940411002) r1) 13858350711815275123) r1) 13861719834326579749) r1) 13857635882265799822))), (25, .float .f64 (fadd (fmul (fadd r1 4627690253511319612) r1) 4640010388282866213))] (fun w hM => run_fadd (by (try have bz_ := po_let ‹fmul x x = _›); (try have bq_ := bd_let ‹fdiv _ _ = _›); exact faS)) (by kernel_rfl) (by kernel_rfl) ?_
  refine TL.run 20 [] [(0, .float .f64 x), (3, .float .f64 r1), (20, .float .f64 (fmul r1 (fadd (fmul (fadd (fmul (fadd (fmul (fadd (fmul 13829429103926125972 r1) 13848613196940411002) r1) 13858350711815275123) r1) 13861719834326579749) r1) 13857635882265799822))), (25, .float .f64 (fadd (fmul (fadd r1 4627690253511319612) r1) 4640010388282866213)), (26, .float .f64 r1)] rfl ⟨by kernel_rfl, by kernel_rfl⟩ ?_
  refine TL.val (sV (binOp .mul 72 (.float .f64 (fadd (fmul (fadd r1 4627690253511319612) r1) 4640010388282866213)) (.float .f64 r1))) (some 27) (.float .f64 (fmul (fadd (fmul (fadd r1 4627690253511319612) r1) 4640010388282866213) r1)) [(0, .float .f64 x), (3, .float .f64 r1), (20, .float .f64 (fmul r1 (fadd (fmul (fadd (fmul (fadd (fmul (fadd (fmul 13829429103926125972 r1) 13848613196940411002) r1) 13858350711815275123) r1) 13861719834326579749) r1) 13857635882265799822))), (27, .float .f64 (fmul (fadd (fmul (fadd r1 4627690253511319612) r1) 4640010388282866213) r1))] (fun w hM => run_fmul (by (try have bz_ := po_let ‹fmul x x = _›); (try have bq_ := bd_let ‹fdiv _ _ = _›); exact fmS)) (by kernel_rfl) (by kernel_rfl) ?_
  refine TL.val (sV (binOp .add 72 (.float .f64 (fmul (fadd (fmul (fadd r1 4627690253511319612) r1) 4640010388282866213) r1)) (.float .f64 4646322940342877755))) (some 28) (.float .f64 (fadd (fmul (fadd (fmul (fadd r1 4627690253511319612) r1) 4640010388282866213) r1) 4646322940342877755)) [(0, .float .f64 x), (3, .float .f64 r1), (20, .float .f64 (fmul r1 (fadd (fmul (fadd (fmul (fadd (fmul (fadd (fmul 13829429103926125972 r1) 13848613196940411002) r1) 13858350711815275123) r1) 13861719834326579749) r1) 13857635882265799822))), (28, .float .f64 (fadd (fmul (fadd (fmul (fadd r1 4627690253511319612) r1) 4640010388282866213) r1) 4646322940342877755))] (fun w hM => run_fadd (by (try have bz_ := po_let ‹fmul x x = _›); (try have bq_ := bd_let ‹fdiv _ _ = _›); exact faS)) (by kernel_rfl) (by kernel_rfl) ?_
  refine TL.run 23 [] [(0, .float .f64 x), (3, .float .f64 r1), (20, .float .f64 (fmul r1 (fadd (fmul (fadd (fmul (fadd (fmul (fadd (fmul 13829429103926125972 r1) 13848613196940411002) r1) 13858350711815275123) r1) 13861719834326579749) r1) 13857635882265799822))), (28, .float .f64 (fadd (fmul (fadd (fmul (fadd r1 4627690253511319612) r1) 4640010388282866213) r1) 4646322940342877755)), (29, .float .f64 r1)] rfl ⟨by kernel_rfl, by kernel_rfl⟩ ?_
  refine TL.val (sV (binOp .mul 72 (.float .f64 (fadd (fmul (fadd (fmul (fadd r1 4627690253511319612) r1) 4640010388282866213) r1) 4646322940342877755)) (.float .f64 r1))) (some 30) (.float .f64 (fmul (fadd (fmul (fadd (fmul (fadd r1 4627690253511319612) r1) 4640010388282866213) r1) 4646322940342877755) r1)) [(0, .float .f64 x), (3, .float .f64 r1), (20, .float .f64 (fmul r1 (fadd (fmul (fadd (fmul (fadd (fmul (fadd (fmul 13829429103926125972 r1) 13848613196940411002) r1) 13858350711815275123) r1) 13861719834326579749) r1) 13857635882265799822))), (30, .float .f64 (fmul (fadd (fmul (fadd (fmul (fadd r1 4627690253511319612) r1) 4640010388282866213) r1) 4646322940342877755) r1))] (fun w hM => run_fmul (by (try have bz_ := po_let ‹fmul x x = _›); (try have bq_ := bd_let ‹fdiv _ _ = _›); exact fmS)) (by kernel_rfl) (by kernel_rfl) ?_
  refine TL.val (sV (binOp .add 72 (.float .f64 (fmul (fadd (fmul (fadd (fmul (fadd r1 4627690253511319612) r1) 4640010388282866213) r1) 4646322940342877755) r1)) (.float .f64 4647246694406179306))) (some 31) (.float .f64 (fadd (fmul (fadd (fmul (fadd (fmul (fadd r1 4627690253511319612) r1) 4640010388282866213) r1) 4646322940342877755) r1) 4647246694406179306)) [(0, .float .f64 x), (3, .float .f64 r1), (20, .float .f64 (fmul r1 (fadd (fmul (fadd (fmul (fadd (fmul (fadd (fmul 13829429103926125972 r1) 13848613196940411002) r1) 13858350711815275123) r1) 13861719834326579749) r1) 13857635882265799822))), (31, .float .f64 (fadd (fmul (fadd (fmul (fadd (fmul (fadd r1 4627690253511319612) r1) 4640010388282866213) r1) 4646322940342877755) r1) 4647246694406179306))] (fun w hM => run_fadd (by (try have bz_ := po_let ‹fmul x x = _›); (try have bq_ := bd_let ‹fdiv _ _ = _›); exact faS)) (by kernel_rfl) (by kernel_rfl) ?_
  refine TL.run 26 [] [(0, .float .f64 x), (20, .float .f64 (fmul r1 (fadd (fmul (fadd (fmul (fadd (fmul (fadd (fmul 13829429103926125972 r1) 13848613196940411002) r1) 13858350711815275123) r1) 13861719834326579749) r1) 13857635882265799822))), (31, .float .f64 (fadd (fmul (fadd (fmul (fadd (fmul (fadd r1 4627690253511319612) r1) 4640010388282866213) r1) 4646322940342877755) r1) 4647246694406179306)), (32, .float .f64 r1)] rfl ⟨by kernel_rfl, by kernel_rfl⟩ ?_
  refine TL.val (sV (binOp .mul 72 (.float .f64 (fadd (fmul (fadd (fmul (fadd (fmul (fadd r1 4627690253511319612) r1) 4640010388282866213) r1) 4646322940342877755) r1) 4647246694406179306)) (.float .f64 r1))) (some 33) (.float .f64 (fmul (fadd (fmul (fadd (fmul (fadd (fmul (fadd r1 4627690253511319612) r1) 4640010388282866213) r1) 4646322940342877755) r1) 4647246694406179306) r1)) [(0, .float .f64 x), (20, .float .f64 (fmul r1 (fadd (fmul (fadd (fmul (fadd (fmul (fadd (fmul 13829429103926125972 r1) 13848613196940411002) r1) 13858350711815275123) r1) 13861719834326579749) r1) 13857635882265799822))), (33, .float .f64 (fmul (fadd (fmul (fadd (fmul (fadd (fmul (fadd r1 4627690253511319612) r1) 4640010388282866213) r1) 4646322940342877755) r1) 4647246694406179306) r1))] (fun w hM => run_fmul (by (try have bz_ := po_let ‹fmul x x = _›); (try have bq_ := bd_let ‹fdiv _ _ = _›); exact fmS)) (by kernel_rfl) (by kernel_rfl) ?_
  refine TL.val (sV (binOp .add 72 (.float .f64 (fmul (fadd (fmul (fadd (fmul (fadd (fmul (fadd r1 4627690253511319612) r1) 4640010388282866213) r1) 4646322940342877755) r1) 4647246694406179306) r1)) (.float .f64 4641049159275471596))) (some 34) (.float .f64 (fadd (fmul (fadd (fmul (fadd (fmul (fadd (fmul (fadd r1 4627690253511319612) r1) 4640010388282866213) r1) 4646322940342877755) r1) 4647246694406179306) r1) 4641049159275471596)) [(0, .float .f64 x), (20, .float .f64 (fmul r1 (fadd (fmul (fadd (fmul (fadd (fmul (fadd (fmul 13829429103926125972 r1) 13848613196940411002) r1) 13858350711815275123) r1) 13861719834326579749) r1) 13857635882265799822))), (34, .float .f64 (fadd (fmul (fadd (fmul (fadd (fmul (fadd (fmul (fadd r1 4627690253511319612) r1) 4640010388282866213) r1) 4646322940342877755) r1) 4647246694406179306) r1) 4641049159275471596))] (fun w hM => run_fadd (by (try have bz_ := po_let ‹fmul x x = _›); (try have bq_ := bd_let ‹fdiv _ _ = _›); exact faS)) (by kernel_rfl) (by kernel_rfl) ?_
  refine TL.val (sV (binOp .quo 72 (.float .f64 (fmul r1 (fadd (fmul (fadd (fmul (fadd (fmul (fadd (fmul 13829429103926125972 r1) 13848613196940411002) r1) 13858350711815275123) r1) 13861719834326579749) r1) 13857635882265799822))) (.float .f64 (fadd (fmul (fadd (fmul (fadd (fmul (fadd (fmul (fadd r1 4627690253511319612) r1) 4640010388282866213) r1) 4646322940342877755) r1) 4647246694406179306) r1) 4641049159275471596)))) (some 35) (.float .f64 (fdiv (fmul r1 (fadd (fmul (fadd (fmul (fadd (fmul (fadd (fmul 13829429103926125972 r1) 13848613196940411002) r1) 13858350711815275123) r1) 13861719834326579749) r1) 13857635882265799822)) (fadd (fmul (fadd (fmul (fadd (fmul (fadd (fmul (fadd r1 4627690253511319612) r1) 4640010388282866213) r1) 4646322940342877755) r1) 4647246694406179306) r1) 4641049159275471596))) [(0, .float .f64 x), (35, .float .f64 (fdiv (fmul r1 (fadd (fmul (fadd (fmul (fadd (fmul (fadd (fmul 13829429103926125972 r1) 13848613196940411002) r1) 13858350711815275123) r1) 13861719834326579749) r1) 13857635882265799822)) (fadd (fmul (fadd (fmul (fadd (fmul (fadd (fmul (fadd r1 4627690253511319612) r1) 4640010388282866213) r1) 4646322940342877755) r1) 4647246694406179306) r1) 4641049159275471596)))] (fun w hM => run_fdiv (by (try have bz_ := po_let ‹fmul x x = _›); (try have bq_ := bd_let ‹fdiv _ _ = _›); exact fdS)) (by kernel_rfl) (by kernel_rfl) ?_
  refine TL.run 30 [] [(0, .float .f64 x), (3, .float .f64 (fdiv (fmul r1 (fadd (fmul (fadd (fmul (fadd (fmul (fadd (fmul 13829429103926125972 r1) 13848613196940411002) r1) 13858350711815275123) r1) 13861719834326579749) r1) 13857635882265799822)) (fadd (fmul (fadd (fmul (fadd (fmul (fadd (fmul (fadd r1 4627690253511319612) r1) 4640010388282866213) r1) 4646322940342877755) r1) 4647246694406179306) r1) 4641049159275471596)))] rfl ⟨by kernel_rfl, by kernel_rfl⟩ ?_
  generalize hr2 : fdiv (fmul r1 (fadd (fmul (fadd (fmul (fadd (fmul (fadd (fmul 13829429103926125972 r1) 13848613196940411002) r1) 13858350711815275123) r1) 13861719834326579749) r1) 13857635882265799822)) (fadd (fmul (fadd (fmul (fadd (fmul (fadd (fmul (fadd r1 4627690253511319612) r1) 4640010388282866213) r1) 4646322940342877755) r1) 4647246694406179306) r1) 4641049159275471596) = r2
  refine TL.next rfl ?_
  refine TC.seq ?_
  refine TC.region ?_
  refine TL.run 2 [] [(0, .float .f64 x), (36, .float .f64 x), (37, .float .f64 r2)] rfl ⟨by kernel_rfl, by kernel_rfl⟩ ?_
  refine TL.val (sV (binOp .mul 72 (.float .f64 x) (.float .f64 r2))) (some 38) (.float .f64 (fmul x r2)) [(0, .float .f64 x), (38, .float .f64 (fmul x r2))] (fun w hM => run_fmul (by (try have bz_ := po_let ‹fmul x x = _›); (try have bq_ := bd_let ‹fdiv _ _ = _›); exact fmS)) (by kernel_rfl) (by kernel_rfl) ?_
  refine TL.run 4 [] [(38, .float .f64 (fmul x r2)), (39, .float .f64 x)] rfl ⟨by kernel_rfl, by kernel_rfl⟩ ?_
  refine TL.val (sV (binOp .add 72 (.float .f64 (fmul x r2)) (.float .f64 x))) (some 40) (.float .f64 (fadd (fmul x r2) x)) [(40, .float .f64 (fadd (fmul x r2) x))] (fun w hM => run_fadd (by (try have bz_ := po_let ‹fmul x x = _›); (try have bq_ := bd_let ‹fdiv _ _ = _›); exact faS)) (by kernel_rfl) (by kernel_rfl) ?_
  refine TL.run 6 [] [(3, .float .f64 (fadd (fmul x r2) x))] rfl ⟨by kernel_rfl, by kernel_rfl⟩ ?_
  generalize hr3 : fadd (fmul x r2) x = r3
  refine TL.next rfl ?_
  refine TC.seq ?_
  refine TC.region ?_
  refine TL.run 2 [] [(2, .float .f64 r3)] rfl ⟨by kernel_rfl, by kernel_rfl⟩ ?_
  refine TL.next rfl ?_
  refine TC.ret ?_
  exact TE.retM (.inl rfl) r3 [] (.float .f64 r3) ⟨by kernel_rfl, by kernel_rfl⟩ rfl (fun _ hM => (hM.sub (.slnil)).fact (by (try have bz_ := po_let ‹fmul x x = _›); (try have bq_ := bd_let ‹fdiv _ _ = _›); subst hr1 hr2 hr3; (try dsimp only); first | exact (have b_ := bd_let ‹fadd _ x = _›; bd_up b_) | exact inst_bd))

set_option maxRecDepth 100000 in
theorem math_satan_w (x : Nat) (w : World) (hM : Sat ⟨w, feet []⟩ [] w) (hx : Po 25 x) : Calls Tryd.prog 90 #[.float .f64 x] w (RetM (Γ := Nat) ⟨w, feet []⟩ (fun g => .float .f64 g) (fun g => [.inr (Fact (Bd 44 g))])) := by
  refine calls_introM (w0 := ⟨w, feet []⟩) (vs := [.float .f64 x]) hM Tryd.func90 rfl Tryd.ntmps90 rfl ?_
  refine TC.weak [(0, .float .f64 x)] (by kernel_rfl) ?_
  refine TC.seq ?_
  refine TC.region ?_
  refine TL.run 1 [] [(0, .float .f64 x)] rfl ⟨by kernel_rfl, by kernel_rfl⟩ ?_
  refine TL.next rfl ?_
  refine TC.seq ?_
  refine TC.seq ?_
  refine TC.region ?_
  refine TL.run 2 [] [(0, .float .f64 x), (4, .bool (fle x 4604119971053405471))] rfl ⟨by kernel_rfl, by kernel_rfl⟩ ?_
  refine TL.next rfl ?_
  refine TC.cond (fle x 4604119971053405471) rfl (by kernel_rfl) (fun h1 => ?_) (fun h1 => ?_)
  · refine TC.seq ?_
    refine TC.region ?_
    refine TL.run 1 [] [(5, .float .f64 x)] rfl ⟨by kernel_rfl, by kernel_rfl⟩ ?_
    refine TL.callM (Γ := Nat) (fun g => .float .f64 g) (fun g => [.inr (Fact (Bd 40 g))]) [] [] (some 6) (fun g => [(6, .float .f64 g)]) (fun w hM => math_xatan_w x w hM.pass (by have i_ := po_of_ngt (e := 25) (fle_ngt h1); exact inst_bd)) (by kernel_rfl) (fun g => by kernel_rfl) ?_
    rintro r_
    refine TL.conv [.inr (Fact (Bd 40 r_))] (fun _ hM => hM) ?_
    refine TL.know (fun w hM => hM.fact_at 0 rfl) (fun hp_math_xatan => ?_)
    refine TL.forget [] (.cons _ (List.Sublist.refl _)) ?_
    refine TL.run 3 [] [(2, .float .f64 r_)] rfl ⟨by kernel_rfl, by kernel_rfl⟩ ?_
    refine TL.next rfl ?_
    refine TC.ret ?_
    refine TE.ret_then ?_
    exact TE.retM (.inl rfl) r_ [] (.float .f64 r_) ⟨by kernel_rfl, by kernel_rfl⟩ rfl (fun _ hM => (hM.sub (.slnil)).fact (by (try have bq_ := ‹Bd 40 _›); (try dsimp only); first | exact inst_bd))
  · refine TC.skip ?_
    refine TE.next ?_
    refine TC.seq ?_
    refine TC.seq ?_
    refine TC.region ?_
    refine TL.run 2 [] [(0, .float .f64 x), (8, .bool (fgt x 4612618744449965542))] rfl ⟨by kernel_rfl, by kernel_rfl⟩ ?_
    refine TL.next rfl ?_
    refine TC.cond (fgt x 4612618744449965542) rfl (by kernel_rfl) (fun h2 => ?_) (fun h2 => ?_)
    · refine TC.seq ?_
      refine TC.region ?_
      refine TL.run 1 [] [(9, .float .f64 x)] rfl ⟨by kernel_rfl, by kernel_rfl⟩ ?_
      refine TL.val (sV (binOp .quo 72 (.float .f64 4607182418800017408) (.float .f64 x))) (some 10) (.float .f64 (fdiv 4607182418800017408 x)) [(10, .float .f64 (fdiv 4607182418800017408 x))] (fun w hM => run_fdiv (by have i_ := pg_of_gt (e := 25) (by decide) h2; exact fdS)) (by kernel_rfl) (by kernel_rfl) ?_
      refine TL.callM (Γ := Nat) (fun g => .float .f64 g) (fun g => [.inr (Fact (Bd 40 g))]) [] [] (some 11) (fun g => [(11, .float .f64 g)]) (fun w hM => math_xatan_w (fdiv 4607182418800017408 x) w hM.pass (by have i_ := pg_of_gt (e := 25) (by decide) h2; exact bd_up bd_div)) (by kernel_rfl) (fun g => by kernel_rfl) ?_
      rintro r__2
      refine TL.conv [.inr (Fact (Bd 40 r__2))] (fun _ hM => hM) ?_
      refine TL.know (fun w hM => hM.fact_at 0 rfl) (fun hp_math_xatan => ?_)
      refine TL.forget [] (.cons _ (List.Sublist.refl _)) ?_
      refine TL.val (sV (binOp .sub 72 (.float .f64 4609753056924675352) (.float .f64 r__2))) (some 12) (.float .f64 (fsub 4609753056924675352 r__2)) [(12, .float .f64 (fsub 4609753056924675352 r__2))] (fun w hM => run_fsub (by (try have bq_ := ‹Bd 40 _›); exact fsS)) (by kernel_rfl) (by kernel_rfl) ?_
      refine TL.val (sV (binOp .add 72 (.float .f64 (fsub 4609753056924675352 r__2)) (.float .f64 4364452196894661639))) (some 13) (.float .f64 (fadd (fsub 4609753056924675352 r__2) 4364452196894661639)) [(13, .float .f64 (fadd (fsub 4609753056924675352 r__2) 4364452196894661639))] (fun w hM => run_fadd (by (try have bq_ := ‹Bd 40 _›); exact faS)) (by kernel_rfl) (by kernel_rfl) ?_
      refine TL.run 6 [] [(2, .float .f64 (fadd (fsub 4609753056924675352 r__2) 4364452196894661639))] rfl ⟨by kernel_rfl, by kernel_rfl⟩ ?_
      refine TL.next rfl ?_
      refine TC.ret ?_
      refine TE.ret_then ?_
      exact TE.retM (.inl rfl) (fadd (fsub 4609753056924675352 r__2) 4364452196894661639) [] (.float .f64 (fadd (fsub 4609753056924675352 r__2) 4364452196894661639)) ⟨by kernel_rfl, by kernel_rfl⟩ rfl (fun _ hM => (hM.sub (.slnil)).fact (by (try have bq_ := ‹Bd 40 _›); (try dsimp only); first | exact inst_bd))
    · refine TC.skip ?_
      refine TE.next ?_
      refine TC.seq ?_
      refine TC.region ?_
      refine TL.run 1 [] [(0, .float .f64 x), (14, .float .f64 x)] rfl ⟨by kernel_rfl, by kernel_rfl⟩ ?_
      refine TL.val (sV (binOp .sub 72 (.float .f64 x) (.float .f64 4607182418800017408))) (some 15) (.float .f64 (fsub x 4607182418800017408)) [(0, .float .f64 x), (15, .float .f64 (fsub x 4607182418800017408))] (fun w hM => run_fsub (by (try have bq_ := ‹Bd 40 _›); exact fsS)) (by kernel_rfl) (by kernel_rfl) ?_
      refine TL.run 3 [] [(15, .float .f64 (fsub x 4607182418800017408)), (16, .float .f64 x)] rfl ⟨by kernel_rfl, by kernel_rfl⟩ ?_
      refine TL.val (sV (binOp .add 72 (.float .f64 x) (.float .f64 4607182418800017408))) (some 17) (.float .f64 (fadd x 4607182418800017408)) [(15, .float .f64 (fsub x 4607182418800017408)), (17, .float .f64 (fadd x 4607182418800017408))] (fun w hM => run_fadd (by (try have bq_ := ‹Bd 40 _›); exact faS)) (by kernel_rfl) (by kernel_rfl) ?_
      refine TL.val (sV (binOp .quo 72 (.float .f64 (fsub x 4607182418800017408)) (.float .f64 (fadd x 4607182418800017408)))) (some 18) (.float .f64 (fdiv (fsub x 4607182418800017408) (fadd x 4607182418800017408))) [(18, .float .f64 (fdiv (fsub x 4607182418800017408) (fadd x 4607182418800017408)))] (fun w hM => run_fdiv (by (try have bq_ := ‹Bd 40 _›); exact fdS)) (by kernel_rfl) (by kernel_rfl) ?_
      refine TL.callM (Γ := Nat) (fun g => .float .f64 g) (fun g => [.inr (Fact (Bd 40 g))]) [] [] (some 19) (fun g => [(19, .float .f64 g)]) (fun w hM => math_xatan_w (fdiv (fsub x 4607182418800017408) (fadd x 4607182418800017408)) w hM.pass (by have i_ := po_of_ngt (e := 25) h2; exact bd_up (bd_div (e := 3)))) (by kernel_rfl) (fun g => by kernel_rfl) ?_
      rintro r__3
      refine TL.conv [.inr (Fact (Bd 40 r__3))] (fun _ hM => hM) ?_
      refine TL.know (fun w hM => hM.fact_at 0 rfl) (fun hp_math_xatan => ?_)
      refine TL.forget [] (.cons _ (List.Sublist.refl _)) ?_
      refine TL.val (sV (binOp .add 72 (.float .f64 4605249457297304856) (.float .f64 r__3))) (some 20) (.float .f64 (fadd 4605249457297304856 r__3)) [(20, .float .f64 (fadd 4605249457297304856 r__3))] (fun w hM => run_fadd (by (try have bq_ := ‹Bd 40 _›); exact faS)) (by kernel_rfl) (by kernel_rfl) ?_
      refine TL.val (sV (binOp .add 72 (.float .f64 (fadd 4605249457297304856 r__3)) (.float .f64 4359948597267291143))) (some 21) (.float .f64 (fadd (fadd 4605249457297304856 r__3) 4359948597267291143)) [(21, .float .f64 (fadd (fadd 4605249457297304856 r__3) 4359948597267291143))] (fun w hM => run_fadd (by (try have bq_ := ‹Bd 40 _›); exact faS)) (by kernel_rfl) (by kernel_rfl) ?_
      refine TL.run 9 [] [(2, .float .f64 (fadd (fadd 4605249457297304856 r__3) 4359948597267291143))] rfl ⟨by kernel_rfl, by kernel_rfl⟩ ?_
      refine TL.next rfl ?_
      refine TC.ret ?_
      exact TE.retM (.inl rfl) (fadd (fadd 4605249457297304856 r__3) 4359948597267291143) [] (.float .f64 (fadd (fadd 4605249457297304856 r__3) 4359948597267291143)) ⟨by kernel_rfl, by kernel_rfl⟩ rfl (fun _ hM => (hM.sub (.slnil)).fact (by (try have bq_ := ‹Bd 40 _›); (try dsimp only); first | exact inst_bd))

set_option maxRecDepth 100000 in
theorem math_atan_w (x : Nat) (w : World) (hM : Sat ⟨w, feet []⟩ [] w) (hx : Bd 25 x) : Calls Tryd.prog 85 #[.float .f64 x] w (RetM (Γ := Nat) ⟨w, feet []⟩ (fun g => .float .f64 g) (fun g => [.inr (Fact (Bd 44 g))])) := by
  refine calls_introM (w0 := ⟨w, feet []⟩) (vs := [.float .f64 x]) hM Tryd.func85 rfl Tryd.ntmps85 rfl ?_
  refine TC.weak [(0, .float .f64 x)] (by kernel_rfl) ?_
  refine TC.seq ?_
  refine TC.region ?_
  refine TL.run 1 [] [(0, .float .f64 x)] rfl ⟨by kernel_rfl, by kernel_rfl⟩ ?_
  refine TL.next rfl ?_
  refine TC.seq ?_
  refine TC.seq ?_
  refine TC.region ?_
  refine TL.run 2 [] [(0, .float .f64 x), (4, .bool (feq x 0))] rfl ⟨by kernel_rfl, by kernel_rfl⟩ ?_
  refine TL.next rfl ?_
  refine TC.cond (feq x 0) rfl (by kernel_rfl) (fun h1 => ?_) (fun h1 => ?_)
  · refine TC.seq ?_
    refine TC.region ?_
    refine TL.run 2 [] [(2, .float .f64 x)] rfl ⟨by kernel_rfl, by kernel_rfl⟩ ?_
    refine TL.next rfl ?_
    refine TC.ret ?_
    refine TE.ret_then ?_
    exact TE.retM (.inl rfl) x [] (.float .f64 x) ⟨by kernel_rfl, by kernel_rfl⟩ rfl (fun _ hM => (hM.sub (.slnil)).fact (by (try have bq_ := ‹Bd 44 _›); (try dsimp only); first | exact inst_bd))
  · refine TC.skip ?_
    refine TE.next ?_
    refine TC.seq ?_
    refine TC.seq ?_
    refine TC.region ?_
    refine TL.run 2 [] [(0, .float .f64 x), (7, .bool (fgt x 0))] rfl ⟨by kernel_rfl, by kernel_rfl⟩ ?_
    refine TL.next rfl ?_
    refine TC.cond (fgt x 0) rfl (by kernel_rfl) (fun h2 => ?_) (fun h2 => ?_)
    · refine TC.seq ?_
      refine TC.region ?_
      refine TL.run 1 [] [(8, .float .f64 x)] rfl ⟨by kernel_rfl, by kernel_rfl⟩ ?_
      refine TL.callM (Γ := Nat) (fun g => .float .f64 g) (fun g => [.inr (Fact (Bd 44 g))]) [] [] (some 9) (fun g => [(9, .float .f64 g)]) (fun w hM => math_satan_w x w hM.pass (po_of_gt h2)) (by kernel_rfl) (fun g => by kernel_rfl) ?_
      rintro r_
      refine TL.conv [.inr (Fact (Bd 44 r_))] (fun _ hM => hM) ?_
      refine TL.know (fun w hM => hM.fact_at 0 rfl) (fun hp_math_satan => ?_)
      refine TL.forget [] (.cons _ (List.Sublist.refl _)) ?_
      refine TL.run 3 [] [(2, .float .f64 r_)] rfl ⟨by kernel_rfl, by kernel_rfl⟩ ?_
      refine TL.next rfl ?_
      refine TC.ret ?_
      refine TE.ret_then ?_
      exact TE.retM (.inl rfl) r_ [] (.float .f64 r_) ⟨by kernel_rfl, by kernel_rfl⟩ rfl (fun _ hM => (hM.sub (.slnil)).fact (by (try have bq_ := ‹Bd 44 _›); (try dsimp only); first | exact inst_bd))
    · refine TC.skip ?_
      refine TE.next ?_
      refine TC.seq ?_
      refine TC.region ?_
      refine TL.run 2 [] [(11, .float .f64 (fneg x))] rfl ⟨by kernel_rfl, by kernel_rfl⟩ ?_
      refine TL.callM (Γ := Nat) (fun g => .float .f64 g) (fun g => [.inr (Fact (Bd 44 g))]) [] [] (some 12) (fun g => [(12, .float .f64 g)]) (fun w hM => math_satan_w (fneg x) w hM.pass (po_of_neg h1 h2)) (by kernel_rfl) (fun g => by kernel_rfl) ?_
      rintro r__2
      refine TL.conv [.inr (Fact (Bd 44 r__2))] (fun _ hM => hM) ?_
      refine TL.know (fun w hM => hM.fact_at 0 rfl) (fun hp_math_satan => ?_)
      refine TL.forget [] (.cons _ (List.Sublist.refl _)) ?_
      refine TL.run 5 [] [(2, .float .f64 (fneg r__2))] rfl ⟨by kernel_rfl, by kernel_rfl⟩ ?_
      refine TL.next rfl ?_
      refine TC.ret ?_
      exact TE.retM (.inl rfl) (fneg r__2) [] (.float .f64 (fneg r__2)) ⟨by kernel_rfl, by kernel_rfl⟩ rfl (fun _ hM => (hM.sub (.slnil)).fact (by (try have bq_ := ‹Bd 44 _›); (try dsimp only); first | exact inst_bd))

set_option maxRecDepth 100000 in
theorem math_Atan_w (x : Nat) (w : World) (hM : Sat ⟨w, feet []⟩ [] w) (hx : Bd 25 x) : Calls Tryd.prog 75 #[.float .f64 x] w (RetM (Γ := Nat) ⟨w, feet []⟩ (fun g => .float .f64 g) (fun g => [.inr (Fact (Bd 44 g))])) := by
  refine calls_introM (w0 := ⟨w, feet []⟩) (vs := [.float .f64 x]) hM Tryd.func75 rfl Tryd.ntmps75 rfl ?_
  refine TC.weak [(0, .float .f64 x)] (by kernel_rfl) ?_
  refine TC.seq ?_
  refine TC.region ?_
  refine TL.run 1 [] [(0, .float .f64 x)] rfl ⟨by kernel_rfl, by kernel_rfl⟩ ?_
  refine TL.next rfl ?_
  refine TC.seq ?_
  refine TC.condF rfl (by kernel_rfl) ?_
  refine TC.skip ?_
  refine TE.next ?_
  refine TC.seq ?_
  refine TC.region ?_
  refine TL.run 1 [] [(5, .float .f64 x)] rfl ⟨by kernel_rfl, by kernel_rfl⟩ ?_
  refine TL.callM (Γ := Nat) (fun g => .float .f64 g) (fun g => [.inr (Fact (Bd 44 g))]) [] [] (some 6) (fun g => [(6, .float .f64 g)]) (fun w hM => math_atan_w x w hM.pass hx) (by kernel_rfl) (fun g => by kernel_rfl) ?_
  rintro r_
  refine TL.conv [.inr (Fact (Bd 44 r_))] (fun _ hM => hM) ?_
  refine TL.know (fun w hM => hM.fact_at 0 rfl) (fun hp_math_atan => ?_)
  refine TL.forget [] (.cons _ (List.Sublist.refl _)) ?_
  refine TL.run 3 [] [(2, .float .f64 r_)] rfl ⟨by kernel_rfl, by kernel_rfl⟩ ?_
  refine TL.next rfl ?_
  refine TC.ret ?_
  exact TE.retM (.inl rfl) r_ [] (.float .f64 r_) ⟨by kernel_rfl, by kernel_rfl⟩ rfl (fun _ hM => (hM.sub (.slnil)).fact (by (try dsimp only); first | exact hp_math_atan))

theorem isnan_no {e x : Nat} [h : Bd e x] (he : e ≤ 1000 := by decide) : math_IsNaN x = false := fne_self he
theorem copy_bd {c y e f : Nat} [h : Bd e c] (hc : c < 18446744073709551616) (hy : y < 18446744073709551616) (hf : e ≤ f := by decide) : Bd f (math_Copysign c y) := by
  have e1 : ∃ n : Nat, n % 9223372036854775808 = c % 9223372036854775808 ∧ math_Copysign c y = n := by
    unfold math_Copysign
    rw [andnot_sign hc]
    have f1 := fkand_u64 (a := y) (b := 9223372036854775808) hy (by decide)
    rw [show (((9223372036854775808 : Nat)) : Int) = 9223372036854775808 from rfl] at f1
    have l1 : y &&& 9223372036854775808 = y / 9223372036854775808 * 9223372036854775808 := by
      have hb : y / 9223372036854775808 < 2 := by omega
      apply Nat.eq_of_testBit_eq
      intro i
      rw [show y / 9223372036854775808 * 9223372036854775808 = 2 ^ 63 * (y / 2 ^ 63) from Nat.mul_comm _ _, show (9223372036854775808 : Nat) = 2 ^ 63 from rfl, Nat.testBit_and, Nat.testBit_two_pow, Nat.testBit_two_pow_mul, Nat.testBit_div_two_pow]
      rcases Nat.lt_trichotomy i 63 with h3 | h3 | h3
      · simp [show ¬ 63 = i by omega, show ¬ i ≥ 63 by omega]
      · subst h3; simp
      · have h4 : y.testBit i = false := Nat.testBit_lt_two_pow (Nat.lt_of_lt_of_le hy (by have := Nat.pow_le_pow_right (show 0 < 2 by decide) (show 64 ≤ i by omega); exact this))
        simp [show i - 63 + 63 = i by omega, h4]
    rw [f1, fkor_u64 (by omega) (by rw [l1]; omega), l1]
    refine ⟨c % 9223372036854775808 ||| y / 9223372036854775808 * 9223372036854775808, ?_, Int.toNat_natCast _⟩
    rw [Nat.or_comm, Nat.mul_comm, show (9223372036854775808 : Nat) = 2 ^ 63 from rfl, ← Nat.two_pow_add_eq_or_of_lt (Nat.mod_lt _ (by decide))]
    omega
  obtain ⟨n, h1, h2⟩ := e1
  rw [h2]
  exact bd_up (bd_mod (y := c) h1) hf

set_option maxHeartbeats 4000000 in
set_option maxRecDepth 100000 in
theorem math_atan2_w (y : Nat) (x : Nat) (w : World) (hM : Sat ⟨w, feet []⟩ [] w) (hy : IsI y) (hx : IsI x) : Calls Tryd.prog 58 #[.float .f64 y, .float .f64 x] w (RetM (Γ := Nat) ⟨w, feet []⟩ (fun g => .float .f64 g) (fun g => [.inr (Fact (Bd 46 g))])) := by
  refine calls_introM (w0 := ⟨w, feet []⟩) (vs := [.float .f64 y, .float .f64 x]) hM Tryd.func58 rfl Tryd.ntmps58 rfl ?_
  refine TC.weak [(0, .float .f64 y), (1, .float .f64 x)] (by kernel_rfl) ?_
  refine TC.seq ?_
  refine TC.region ?_
  refine TL.run 1 [] [(0, .float .f64 y), (1, .float .f64 x)] rfl ⟨by kernel_rfl, by kernel_rfl⟩ ?_
  refine TL.next rfl ?_
  refine TC.seq ?_
  refine TC.block ?_
  refine TC.seq ?_
  refine TC.region ?_
  refine TL.run 1 [] [(0, .float .f64 y), (1, .float .f64 x), (7, .float .f64 y)] rfl ⟨by kernel_rfl, by kernel_rfl⟩ ?_
  refine TL.call (some 8) [(0, .float .f64 y), (1, .float .f64 x), (8, .bool ((math_IsNaN y)))] (fun w _ => math_IsNaN_w y w) (by kernel_rfl) (by kernel_rfl) ?_
  generalize hr1 : math_IsNaN y = r1
  refine TL.run 3 [] [(0, .float .f64 y), (1, .float .f64 x), (9, .bool r1)] rfl ⟨by kernel_rfl, by kernel_rfl⟩ ?_
  refine TL.split 9 r1 (by kernel_rfl) (fun h1 => ?_) (fun h1 => ?_)
  · exact ((by have i_ := isI_bd hy; rw [← hr1, isnan_no] at h1; cases h1) : False).elim
  · refine TL.run 4 [] [(0, .float .f64 y), (1, .float .f64 x), (9, .bool false), (10, .float .f64 x)] rfl ⟨by kernel_rfl, by kernel_rfl⟩ ?_
    refine TL.call (some 11) [(0, .float .f64 y), (1, .float .f64 x), (9, .bool false), (11, .bool ((math_IsNaN x)))] (fun w _ => math_IsNaN_w x w) (by kernel_rfl) (by kernel_rfl) ?_
    generalize hr2 : math_IsNaN x = r2
    refine TL.run 7 [] [(0, .float .f64 y), (1, .float .f64 x), (6, .bool r2)] rfl ⟨by kernel_rfl, by kernel_rfl⟩ ?_
    refine TL.next rfl ?_
    refine TC.cond r2 rfl (by kernel_rfl) (fun h2 => ?_) (fun h2 => ?_)
    · exact ((by have i_ := isI_bd hx; rw [← hr2, isnan_no] at h2; cases h2) : False).elim
    · refine TC.seq ?_
      refine TC.region ?_
      refine TL.run 3 [] [(0, .float .f64 y), (1, .float .f64 x), (14, .bool (feq y 0))] rfl ⟨by kernel_rfl, by kernel_rfl⟩ ?_
      refine TL.next rfl ?_
      refine TC.cond (feq y 0) rfl (by kernel_rfl) (fun h3 => ?_) (fun h3 => ?_)
      · refine TC.seq ?_
        refine TC.seq ?_
        refine TC.region ?_
        refine TL.run 3 [] [(0, .float .f64 y), (1, .float .f64 x), (19, .bool (fge x 0))] rfl ⟨by kernel_rfl, by kernel_rfl⟩ ?_
        refine TL.split 19 (fge x 0) (by kernel_rfl) (fun h4 => ?_) (fun h4 => ?_)
        · refine TL.run 4 [] [(0, .float .f64 y), (19, .bool true), (20, .float .f64 x)] rfl ⟨by kernel_rfl, by kernel_rfl⟩ ?_
          refine TL.call (some 21) [(0, .float .f64 y), (19, .bool true), (21, .bool ((math_Signbit x)))] (fun w _ => math_Signbit_w x w) (by kernel_rfl) (by kernel_rfl) ?_
          generalize hr3 : math_Signbit x = r3
          refine TL.run 7 [] [(0, .float .f64 y), (23, .bool (!r3))] rfl ⟨by kernel_rfl, by kernel_rfl⟩ ?_
          refine TL.next rfl ?_
          refine TC.cond (!r3) rfl (by kernel_rfl) (fun h5 => ?_) (fun h5 => ?_)
          · refine TC.seq ?_
            refine TC.region ?_
            refine TL.run 1 [] [(24, .float .f64 y)] rfl ⟨by kernel_rfl, by kernel_rfl⟩ ?_
            refine TL.call (some 25) [(25, .float .f64 (math_Copysign 0 y))] (fun w _ => math_Copysign_w 0 y w) (by kernel_rfl) (by kernel_rfl) ?_
            generalize hr4 : math_Copysign 0 y = r4
            refine TL.run 3 [] [(4, .float .f64 r4)] rfl ⟨by kernel_rfl, by kernel_rfl⟩ ?_
            refine TL.next rfl ?_
            refine TC.ret ?_
            refine TE.ret_then (TE.ret_block (TE.ret_then ?_))
            exact TE.retM (.inl rfl) r4 [] (.float .f64 r4) ⟨by kernel_rfl, by kernel_rfl⟩ rfl (fun _ hM => (hM.sub (.slnil)).fact (by have by_ := isI_bd hy; have bx_ := isI_bd hx; (try have bq_ := ‹Bd 44 _›); subst hr1 hr2 hr3 hr4; (try dsimp only); first | exact copy_bd (by decide) (isI_lt hy) | exact inst_bd))
          · refine TC.skip ?_
            refine TE.next ?_
            refine TC.seq ?_
            refine TC.region ?_
            refine TL.run 1 [] [(26, .float .f64 y)] rfl ⟨by kernel_rfl, by kernel_rfl⟩ ?_
            refine TL.call (some 27) [(27, .float .f64 (math_Copysign 4614256656552045848 y))] (fun w _ => math_Copysign_w 4614256656552045848 y w) (by kernel_rfl) (by kernel_rfl) ?_
            generalize hr5 : math_Copysign 4614256656552045848 y = r5
            refine TL.run 3 [] [(4, .float .f64 r5)] rfl ⟨by kernel_rfl, by kernel_rfl⟩ ?_
            refine TL.next rfl ?_
            refine TC.ret ?_
            refine TE.ret_block (TE.ret_then ?_)
            exact TE.retM (.inl rfl) r5 [] (.float .f64 r5) ⟨by kernel_rfl, by kernel_rfl⟩ rfl (fun _ hM => (hM.sub (.slnil)).fact (by have by_ := isI_bd hy; have bx_ := isI_bd hx; (try have bq_ := ‹Bd 44 _›); subst hr1 hr2 hr3 hr5; (try dsimp only); first | exact copy_bd (by decide) (isI_lt hy) | exact inst_bd))
        · refine TL.run 7 [] [(0, .float .f64 y), (23, .bool false)] rfl ⟨by kernel_rfl, by kernel_rfl⟩ ?_
          refine TL.next rfl ?_
          refine TC.condF rfl (by kernel_rfl) ?_
          refine TC.skip ?_
          refine TE.next ?_
          refine TC.seq ?_
          refine TC.region ?_
          refine TL.run 1 [] [(26, .float .f64 y)] rfl ⟨by kernel_rfl, by kernel_rfl⟩ ?_
          refine TL.call (some 27) [(27, .float .f64 (math_Copysign 4614256656552045848 y))] (fun w _ => math_Copysign_w 4614256656552045848 y w) (by kernel_rfl) (by kernel_rfl) ?_
          generalize hr6 : math_Copysign 4614256656552045848 y = r6
          refine TL.run 3 [] [(4, .float .f64 r6)] rfl ⟨by kernel_rfl, by kernel_rfl⟩ ?_
          refine TL.next rfl ?_
          refine TC.ret ?_
          refine TE.ret_block (TE.ret_then ?_)
          exact TE.retM (.inl rfl) r6 [] (.float .f64 r6) ⟨by kernel_rfl, by kernel_rfl⟩ rfl (fun _ hM => (hM.sub (.slnil)).fact (by have by_ := isI_bd hy; have bx_ := isI_bd hx; (try have bq_ := ‹Bd 44 _›); subst hr1 hr2 hr6; (try dsimp only); first | exact copy_bd (by decide) (isI_lt hy) | exact inst_bd))
      · refine TC.seq ?_
        refine TC.region ?_
        refine TL.run 3 [] [(0, .float .f64 y), (1, .float .f64 x), (28, .bool (feq x 0))] rfl ⟨by kernel_rfl, by kernel_rfl⟩ ?_
        refine TL.next rfl ?_
        refine TC.cond (feq x 0) rfl (by kernel_rfl) (fun h6 => ?_) (fun h6 => ?_)
        · refine TC.seq ?_
          refine TC.region ?_
          refine TL.run 1 [] [(31, .float .f64 y)] rfl ⟨by kernel_rfl, by kernel_rfl⟩ ?_
          refine TL.call (some 32) [(32, .float .f64 (math_Copysign 4609753056924675352 y))] (fun w _ => math_Copysign_w 4609753056924675352 y w) (by kernel_rfl) (by kernel_rfl) ?_
          generalize hr7 : math_Copysign 4609753056924675352 y = r7
          refine TL.run 3 [] [(4, .float .f64 r7)] rfl ⟨by kernel_rfl, by kernel_rfl⟩ ?_
          refine TL.next rfl ?_
          refine TC.ret ?_
          refine TE.ret_block (TE.ret_then ?_)
          exact TE.retM (.inl rfl) r7 [] (.float .f64 r7) ⟨by kernel_rfl, by kernel_rfl⟩ rfl (fun _ hM => (hM.sub (.slnil)).fact (by have by_ := isI_bd hy; have bx_ := isI_bd hx; (try have bq_ := ‹Bd 44 _›); subst hr1 hr2 hr7; (try dsimp only); first | exact copy_bd (by decide) (isI_lt hy) | exact inst_bd))
        · refine TC.seq ?_
          refine TC.region ?_
          refine TL.run 1 [] [(0, .float .f64 y), (1, .float .f64 x), (34, .float .f64 x)] rfl ⟨by kernel_rfl, by kernel_rfl⟩ ?_
          refine TL.callM (Γ := Bool) (fun g => .bool g) (fun g => [.inr (Fact (g = false))]) [] [] (some 35) (fun g => [(0, .float .f64 y), (1, .float .f64 x), (35, .bool g)]) (fun w hM => math_IsInf_w x 0 w hM.pass rfl (isI_bd hx) (isI_lt hx)) (by kernel_rfl) (fun g => by kernel_rfl) ?_
          rintro r_
          refine TL.conv [.inr (Fact (r_ = false))] (fun _ hM => hM) ?_
          refine TL.know (fun w hM => hM.fact_at 0 rfl) (fun hp_math_IsInf => ?_)
          refine TL.forget [] (.cons _ (List.Sublist.refl _)) ?_
          refine TL.run 3 [] [(0, .float .f64 y), (1, .float .f64 x), (33, .bool r_)] rfl ⟨by kernel_rfl, by kernel_rfl⟩ ?_
          refine TL.next rfl ?_
          refine TC.cond r_ rfl (by kernel_rfl) (fun h7 => ?_) (fun h7 => ?_)
          · exact ((by rw [hp_math_IsInf] at h7; cases h7) : False).elim
          · refine TC.seq ?_
            refine TC.region ?_
            refine TL.run 1 [] [(0, .float .f64 y), (1, .float .f64 x), (53, .float .f64 y)] rfl ⟨by kernel_rfl, by kernel_rfl⟩ ?_
            refine TL.callM (Γ := Bool) (fun g => .bool g) (fun g => [.inr (Fact (g = false))]) [] [] (some 54) (fun g => [(0, .float .f64 y), (1, .float .f64 x), (54, .bool g)]) (fun w hM => math_IsInf_w y 0 w hM.pass rfl (isI_bd hy) (isI_lt hy)) (by kernel_rfl) (fun g => by kernel_rfl) ?_
            rintro r__2
            refine TL.conv [.inr (Fact (r__2 = false))] (fun _ hM => hM) ?_
            refine TL.know (fun w hM => hM.fact_at 0 rfl) (fun hp_math_IsInf => ?_)
            refine TL.forget [] (.cons _ (List.Sublist.refl _)) ?_
            refine TL.run 3 [] [(0, .float .f64 y), (1, .float .f64 x), (52, .bool r__2)] rfl ⟨by kernel_rfl, by kernel_rfl⟩ ?_
            refine TL.next rfl ?_
            refine TC.cond r__2 rfl (by kernel_rfl) (fun h8 => ?_) (fun h8 => ?_)
            · exact ((by rw [hp_math_IsInf] at h8; cases h8) : False).elim
            · refine TC.skip ?_
              refine TE.normal_block ?_
              refine TE.next ?_
              refine TC.seq ?_
              refine TC.region ?_
              refine TL.run 2 [] [(1, .float .f64 x), (57, .float .f64 y), (58, .float .f64 x)] rfl ⟨by kernel_rfl, by kernel_rfl⟩ ?_
              refine TL.val (sV (binOp .quo 72 (.float .f64 y) (.float .f64 x))) (some 59) (.float .f64 (fdiv y x)) [(1, .float .f64 x), (59, .float .f64 (fdiv y x))] (fun w hM => run_fdiv (by have by_ := isI_bd hy; have bx_ := isI_bd hx; (try have bq_ := ‹Bd 44 _›); subst hr1 hr2; have i_ := isI_ge hx h6; exact fdS)) (by kernel_rfl) (by kernel_rfl) ?_
              refine TL.callM (Γ := Nat) (fun g => .float .f64 g) (fun g => [.inr (Fact (Bd 44 g))]) [] [] (some 60) (fun g => [(1, .float .f64 x), (60, .float .f64 g)]) (fun w hM => math_Atan_w (fdiv y x) w hM.pass (by have by_ := isI_bd hy; have bx_ := isI_bd hx; (try have bq_ := ‹Bd 44 _›); subst hr1 hr2; have i_ := isI_ge hx h6; exact inst_bd)) (by kernel_rfl) (fun g => by kernel_rfl) ?_
              rintro r__3
              refine TL.conv [.inr (Fact (Bd 44 r__3))] (fun _ hM => hM) ?_
              refine TL.know (fun w hM => hM.fact_at 0 rfl) (fun hp_math_Atan => ?_)
              refine TL.forget [] (.cons _ (List.Sublist.refl _)) ?_
              refine TL.run 5 [] [(1, .float .f64 x), (5, .float .f64 r__3)] rfl ⟨by kernel_rfl, by kernel_rfl⟩ ?_
              refine TL.next rfl ?_
              refine TC.seq ?_
              refine TC.seq ?_
              refine TC.region ?_
              refine TL.run 2 [] [(5, .float .f64 r__3), (62, .bool (flt x 0))] rfl ⟨by kernel_rfl, by kernel_rfl⟩ ?_
              refine TL.next rfl ?_
              refine TC.cond (flt x 0) rfl (by kernel_rfl) (fun h9 => ?_) (fun h9 => ?_)
              · refine TC.seq ?_
                refine TC.seq ?_
                refine TC.region ?_
                refine TL.run 2 [] [(5, .float .f64 r__3), (64, .bool (fle r__3 0))] rfl ⟨by kernel_rfl, by kernel_rfl⟩ ?_
                refine TL.next rfl ?_
                refine TC.cond (fle r__3 0) rfl (by kernel_rfl) (fun h10 => ?_) (fun h10 => ?_)
                · refine TC.seq ?_
                  refine TC.region ?_
                  refine TL.run 1 [] [(65, .float .f64 r__3)] rfl ⟨by kernel_rfl, by kernel_rfl⟩ ?_
                  refine TL.val (sV (binOp .add 72 (.float .f64 r__3) (.float .f64 4614256656552045848))) (some 66) (.float .f64 (fadd r__3 4614256656552045848)) [(66, .float .f64 (fadd r__3 4614256656552045848))] (fun w hM => run_fadd (by have by_ := isI_bd hy; have bx_ := isI_bd hx; (try have bq_ := ‹Bd 44 _›); exact faS)) (by kernel_rfl) (by kernel_rfl) ?_
                  refine TL.run 3 [] [(4, .float .f64 (fadd r__3 4614256656552045848))] rfl ⟨by kernel_rfl, by kernel_rfl⟩ ?_
                  refine TL.next rfl ?_
                  refine TC.ret ?_
                  refine TE.ret_then (TE.ret_then ?_)
                  exact TE.retM (.inl rfl) (fadd r__3 4614256656552045848) [] (.float .f64 (fadd r__3 4614256656552045848)) ⟨by kernel_rfl, by kernel_rfl⟩ rfl (fun _ hM => (hM.sub (.slnil)).fact (by have by_ := isI_bd hy; have bx_ := isI_bd hx; (try have bq_ := ‹Bd 44 _›); subst hr1 hr2; (try dsimp only); first | exact copy_bd (by decide) (isI_lt hy) | exact inst_bd))
                · refine TC.skip ?_
                  refine TE.next ?_
                  refine TC.seq ?_
                  refine TC.region ?_
                  refine TL.run 1 [] [(67, .float .f64 r__3)] rfl ⟨by kernel_rfl, by kernel_rfl⟩ ?_
                  refine TL.val (sV (binOp .sub 72 (.float .f64 r__3) (.float .f64 4614256656552045848))) (some 68) (.float .f64 (fsub r__3 4614256656552045848)) [(68, .float .f64 (fsub r__3 4614256656552045848))] (fun w hM => run_fsub (by have by_ := isI_bd hy; have bx_ := isI_bd hx; (try have bq_ := ‹Bd 44 _›); exact fsS)) (by kernel_rfl) (by kernel_rfl) ?_
                  refine TL.run 3 [] [(4, .float .f64 (fsub r__3 4614256656552045848))] rfl ⟨by kernel_rfl, by kernel_rfl⟩ ?_
                  refine TL.next rfl ?_
                  refine TC.ret ?_
                  refine TE.ret_then ?_
                  exact TE.retM (.inl rfl) (fsub r__3 4614256656552045848) [] (.float .f64 (fsub r__3 4614256656552045848)) ⟨by kernel_rfl, by kernel_rfl⟩ rfl (fun _ hM => (hM.sub (.slnil)).fact (by have by_ := isI_bd hy; have bx_ := isI_bd hx; (try have bq_ := ‹Bd 44 _›); subst hr1 hr2; (try dsimp only); first | exact copy_bd (by decide) (isI_lt hy) | exact inst_bd))
              · refine TC.skip ?_
                refine TE.next ?_
                refine TC.seq ?_
                refine TC.region ?_
                refine TL.run 2 [] [(4, .float .f64 r__3)] rfl ⟨by kernel_rfl, by kernel_rfl⟩ ?_
                refine TL.next rfl ?_
                refine TC.ret ?_
                exact TE.retM (.inl rfl) r__3 [] (.float .f64 r__3) ⟨by kernel_rfl, by kernel_rfl⟩ rfl (fun _ hM => (hM.sub (.slnil)).fact (by have by_ := isI_bd hy; have bx_ := isI_bd hx; (try have bq_ := ‹Bd 44 _›); subst hr1 hr2; (try dsimp only); first | exact copy_bd (by decide) (isI_lt hy) | exact inst_bd))

set_option maxRecDepth 100000 in
theorem math_Atan2_w (y : Nat) (x : Nat) (w : World) (hM : Sat ⟨w, feet []⟩ [] w) (hy : IsI y) (hx : IsI x) : Calls Tryd.prog 34 #[.float .f64 y, .float .f64 x] w (RetM (Γ := Nat) ⟨w, feet []⟩ (fun g => .float .f64 g) (fun g => [.inr (Fact (Bd 46 g))])) := by
  refine calls_introM (w0 := ⟨w, feet []⟩) (vs := [.float .f64 y, .float .f64 x]) hM Tryd.func34 rfl Tryd.ntmps34 rfl ?_
  refine TC.weak [(0, .float .f64 y), (1, .float .f64 x)] (by kernel_rfl) ?_
  refine TC.seq ?_
  refine TC.region ?_
  refine TL.run 1 [] [(0, .float .f64 y), (1, .float .f64 x)] rfl ⟨by kernel_rfl, by kernel_rfl⟩ ?_
  refine TL.next rfl ?_
  refine TC.seq ?_
  refine TC.condF rfl (by kernel_rfl) ?_
  refine TC.skip ?_
  refine TE.next ?_
  refine TC.seq ?_
  refine TC.region ?_
  refine TL.run 2 [] [(8, .float .f64 y), (9, .float .f64 x)] rfl ⟨by kernel_rfl, by kernel_rfl⟩ ?_
  refine TL.callM (Γ := Nat) (fun g => .float .f64 g) (fun g => [.inr (Fact (Bd 46 g))]) [] [] (some 10) (fun g => [(10, .float .f64 g)]) (fun w hM => math_atan2_w y x w hM.pass (by exact sg) (by exact sg)) (by kernel_rfl) (fun g => by kernel_rfl) ?_
  rintro r_
  refine TL.conv [.inr (Fact (Bd 46 r_))] (fun _ hM => hM) ?_
  refine TL.know (fun w hM => hM.fact_at 0 rfl) (fun hp_math_atan2 => ?_)
  refine TL.forget [] (.cons _ (List.Sublist.refl _)) ?_
  refine TL.run 4 [] [(4, .float .f64 r_)] rfl ⟨by kernel_rfl, by kernel_rfl⟩ ?_
  refine TL.next rfl ?_
  refine TC.ret ?_
  exact TE.retM (.inl rfl) r_ [] (.float .f64 r_) ⟨by kernel_rfl, by kernel_rfl⟩ rfl (fun _ hM => (hM.sub (.slnil)).fact (by (try dsimp only); first | exact hp_math_atan2))

end Go.Sky
