/- The table of the sine is what the program computes. Conditions: none. -/
import Derived.Test.YtakjcphknccdnaaDoorTabA
import Derived.Test.YtakjcphknccdnaaDoorTabB
import Derived.Test.YtakjcphknccdnaaDoorTabC
import Derived.Test.YtakjcphknccdnaaDoorTabD
import Derived.Test.YtakjcphknccdnaaDoorDir
namespace Go.Sky
open Go Go.Eng

theorem tab_ok {n : Nat} (h : n < 4096) : floatToIntVal .f64 (sinW n) .i64 = some (tabS n) := by
  refine of_chk ?_
  by_cases c1 : n < 1024
  · exact tabA n (by omega) (by omega)
  by_cases c2 : n < 2048
  · exact tabB n (by omega) (by omega)
  by_cases c3 : n < 3072
  · exact tabC n (by omega) (by omega)
  · exact tabD n (by omega) (by omega)
theorem f2i_of {x : Nat} {k : IntKind} {t : Int} (h : floatToIntVal .f64 x k = some t) : f2i x = t := by
  unfold floatToIntVal at h
  unfold f2i
  split at h
  · rename_i n hn
    split at h
    · cases h; rw [hn]; rfl
    · cases h
  · cases h
theorem tmod_val (h : Int) : h.tmod 4096 = if 0 ≤ h then h % 4096 else -(-h % 4096) := by
  split
  · rename_i h0; exact Int.tmod_eq_emod_of_nonneg h0
  · rename_i h0
    have := Int.neg_tmod (-h) 4096
    rw [Int.neg_neg] at this
    rw [this, Int.tmod_eq_emod_of_nonneg (by omega)]
theorem norm_eq (h : Int) : angle_Norm h = h % 4096 := by
  unfold angle_Norm
  have a := tmod_val h
  have b : -4096 < h.tmod 4096 ∧ h.tmod 4096 < 4096 := by rw [a]; split <;> omega
  rw [w64_id (by omega), Int.tmod_eq_emod_of_nonneg (by omega), a]
  split <;> omega
theorem norm_in {h r : Int} (hr : angle_Norm h = r) : 0 ≤ r ∧ r < 4096 := by rw [norm_eq] at hr; omega
theorem norm_dbl {h r : Int} (hr : angle_Norm h = r) : Po 12 (dbl r) := po_dbl 12 (by have := norm_in hr; omega) (norm_in hr).1
theorem fdiv_lt (x y : Nat) : fdiv x y < 18446744073709551616 := by
  unfold fdiv
  cases h : FloatKind.f64.format.div x y with
  | none => decide
  | some r => exact FloatKind.f64.format.div_lt h
theorem bd_cosP {zz : Nat} [h : Bd 40 zz] : Bd 400 (cosP zz) := by unfold cosP poly; exact inst_bd
theorem bd_sinP {z zz : Nat} [h : Bd 20 z] [h2 : Bd 40 zz] : Bd 400 (sinP z zz) := by unfold sinP poly; exact inst_bd
theorem bd_sinQ {j : Int} {z : Nat} [h : Bd 20 z] : Bd 400 (sinQ j z) := by
  unfold sinQ
  have i_ : Bd 40 (fmul z z) := inst_bd
  cases (j == 1 || j == 2)
  · exact bd_sinP
  · exact bd_cosP
theorem bd_sinY {x : Nat} [h : Po 14 x] : Po 17 (sinY x) := by
  unfold sinY
  have i_ := sj_dbl (x := x)
  have j_ : Po 16 (dbl (sinJ x)) := i_
  cases sinO x
  · exact po_up i_
  · exact (inst_po : Po 17 (fadd (dbl (sinJ x)) 4607182418800017408))
theorem bd_sinF {x : Nat} [h : Po 14 x] : Bd 400 (sinF x) := by
  have i_ := bd_sinY (x := x)
  have z_ : Bd 20 (sinZ x) := by unfold sinZ; exact inst_bd
  unfold sinF
  cases feq x 0
  · cases decide (sinM x > 3)
    · exact bd_sinQ
    · have q_ : Bd 400 (sinQ (wu64 (sinM x - 4)) (sinZ x)) := bd_sinQ
      exact bdN
  · exact (inst_bd : Bd 400 x)
theorem arg_po {h r : Int} (hr : angle_Norm h = r) : Po 14 (fdiv (fmul (dbl r) 4614256656552045848) 4656722014701092864) := by
  have i_ := norm_dbl hr
  exact inst_po
theorem sin_bd {h r1 : Int} {r2 : Nat} (h1 : angle_Norm h = r1) (h2 : math_Sin (fdiv (fmul (dbl r1) 4614256656552045848) 4656722014701092864) = r2) : Bd 400 r2 := by
  subst h2
  have i_ := arg_po h1
  exact bd_sinF
theorem sin_ok {h r1 : Int} {r2 r3 : Nat} (h1 : angle_Norm h = r1) (h2 : math_Sin (fdiv (fmul (dbl r1) 4614256656552045848) 4656722014701092864) = r2) (h3 : math_Round (fmul 4670232813583204352 r2) = r3) : floatToIntVal .f64 r3 .i64 = some (f2i r3) := by
  have n := norm_in h1
  have t := tab_ok (n := r1.toNat) (by omega)
  have e : sinW r1.toNat = r3 := by
    unfold sinW argF
    rw [Int.toNat_of_nonneg n.1, h2, h3]
  rw [e] at t
  rw [t, f2i_of t]
end Go.Sky
