/- Floating numbers as their bits. Conditions: in each theorem. -/
import Derived.Test.YtngnagndhikafaaDoorFct
import Derived.Laws.Externs
namespace Go.Eng

/-- The double nearest to an integer. -/
def dbl (n : Int) : Nat := FloatKind.f64.nearest n
def fcm (x y : Nat) : Option Ordering := FloatKind.f64.format.order x y
def feq (x y : Nat) : Bool := fcm x y == some .eq
def fne (x y : Nat) : Bool := fcm x y != some .eq
def flt (x y : Nat) : Bool := fcm x y == some .lt
def fgt (x y : Nat) : Bool := fcm x y == some .gt
/-- The product, where it is a number. -/
def fmul (x y : Nat) : Nat := (FloatKind.f64.format.mul x y).getD 0

theorem run_fmul {P : Program} {w : World} {t : TypeId} {x y : Nat} (h : (FloatKind.f64.format.mul x y).isSome = true) :
    (sV (binOp .mul t (.float .f64 x) (.float .f64 y))).run P w = .ok (.value (.float .f64 (fmul x y))) w := by
  refine run_sV ?_
  obtain ⟨r, hr⟩ := Option.isSome_iff_exists.1 h
  simp only [binOp, Op.floatArith, fmul, hr]
  rfl

theorem run_f64bits {f : FuncId} {P : Program} {w : World} {fn : Func} {b : Nat} (hf : P.funcs[f]? = some fn) (hname : (fn.name == "runtime.NumGoroutine") = false) (hb : fn.body.isNone = true) (hn : Extern.findNext fn = none)
    (he : Extern.find fn = some Extern.MathFloatBits.float64bits) : (callFunc f #[.float .f64 b]).run P w = .ok (.value (.int .u64 (b : Int))) w := by
  rw [run_callFunc_extern hf hname hb hn he]; rfl
theorem run_f64frombits {f : FuncId} {P : Program} {w : World} {fn : Func} {n : Int} (hf : P.funcs[f]? = some fn) (hname : (fn.name == "runtime.NumGoroutine") = false) (hb : fn.body.isNone = true) (hn : Extern.findNext fn = none)
    (he : Extern.find fn = some Extern.MathFloatBits.float64frombits) : (callFunc f #[.int .u64 n]).run P w = .ok (.value (.float .f64 n.toNat)) w := by
  rw [run_callFunc_extern hf hname hb hn he]; rfl
end Go.Eng
