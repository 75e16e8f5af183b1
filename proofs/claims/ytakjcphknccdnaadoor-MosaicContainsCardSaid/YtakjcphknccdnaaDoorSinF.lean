/- The sine of math.Sin, as a function of words. Conditions: none. -/
import Derived.Test.YtakjcphknccdnaaDoorFlob
namespace Go.Sky
open Go Go.Eng

def sinC : List Nat := [4460209587652500685, 13716528389658582877, 4523617212962785441, 13774824197404483331, 4575957461383575504, 13818544856648471880]
def cosC : List Nat := [13666448263388469915, 4477121864728985349, 13732177093698800582, 4537941361668146421, 13787419979223748497, 4586165620538955083]
/-- The octant, and the argument in it. -/
def sinJ (x : Nat) : Int := f2i (fmul x 4608412980311869571)
def sinO (x : Nat) : Bool := kand .u64 (sinJ x) 1 == 1
def sinK (x : Nat) : Int := bif sinO x then wu64 (sinJ x + 1) else sinJ x
def sinY (x : Nat) : Nat := bif sinO x then fadd (dbl (sinJ x)) 4607182418800017408 else dbl (sinJ x)
def sinM (x : Nat) : Int := kand .u64 (sinK x) 7
def sinZ (x : Nat) : Nat := fsub (fsub (fsub x (fmul (sinY x) 4605249456957292544)) (fmul (sinY x) 4495793288086814720)) (fmul (sinY x) 4388835458085048688)
def poly (a b c d e f z : Nat) : Nat := fadd (fmul (fadd (fmul (fadd (fmul (fadd (fmul (fadd (fmul a z) b) z) c) z) d) z) e) z) f
def sinP (z zz : Nat) : Nat := fadd z (fmul (fmul z zz) (poly 4460209587652500685 13716528389658582877 4523617212962785441 13774824197404483331 4575957461383575504 13818544856648471880 zz))
def cosP (zz : Nat) : Nat := fadd (fsub 4607182418800017408 (fmul 4602678819172646912 zz)) (fmul (fmul zz zz) (poly 13666448263388469915 4477121864728985349 13732177093698800582 4537941361668146421 13787419979223748497 4586165620538955083 zz))
def sinQ (j : Int) (z : Nat) : Nat := bif j == 1 || j == 2 then cosP (fmul z z) else sinP z (fmul z z)
def sinF (x : Nat) : Nat :=
  bif feq x 0 then x
  else bif decide (sinM x > 3) then fneg (sinQ (wu64 (sinM x - 4)) (sinZ x)) else sinQ (sinM x) (sinZ x)
def argF (n : Nat) : Nat := fdiv (fmul (dbl (n : Int)) 4614256656552045848) 4656722014701092864
def sinN (n : Nat) : Nat := fmul 4670232813583204352 (sinF (argF n))
/-- The tables that the sine reads. -/
structure Tabs (w : World) : Prop where
  «1» : TabF w 1 cosC
  «2» : TabF w 2 sinC
theorem Tabs.sat {w0 w : World} {D : Nat → Prop} {M : Mem} (h : Tabs w0) (hM : Sat ⟨w0, D⟩ M w) (hD1 : ¬ D 1 := by first | exact (fun h => h) | exact feet_no) (hD2 : ¬ D 2 := by first | exact (fun h => h) | exact feet_no) : Tabs w :=
  ⟨h.1.sat hM hD1, h.2.sat hM hD2⟩
end Go.Sky
