/- The law BitsNearest: the double nearest to a fixed-point number, bit by bit. Conditions: in each theorem. -/
import Derived.Test.YtjopamopbpggiaaFi
import Derived.Test.YtjopamopbpggiaaGlue
namespace Go.Sky
open Go Go.Eng Go.Glue

theorem bitsWorks_true : skywaylaw1_bitsWorks = true := by kernel_rfl
theorem from_wrong {n scale : Int} (h : scale < 0 ∨ scale > 60) : bits_FromFixed n scale = (0, 4) := by
  unfold bits_FromFixed
  rw [show (decide (scale < 0) || decide (scale > 60)) = true by simpa using h, cond_true]
theorem BitsNearest_true (n scale : Int) (hn : I64 n) (_hs : I64 scale) : skywaylaw1_BitsNearest n scale = true := by
  unfold skywaylaw1_BitsNearest
  simp only [bitsWorks_true, Bool.not_true, cond_false]
  by_cases h : scale < 0 ∨ scale > 60
  · rw [from_wrong h, show (decide (scale < 0) || decide (scale > 60)) = true by simpa using h, cond_true]; rfl
  · rw [show (decide (scale < 0) || decide (scale > 60)) = false by rw [decide_eq_false (by omega), decide_eq_false (by omega)]; rfl, cond_false]
    have e := from_any (n := n) (scale := scale.toNat) hn (by omega)
    rw [show ((scale.toNat : Nat) : Int) = scale by omega] at e
    rw [e]
    simp
end Go.Sky
