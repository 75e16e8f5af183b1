/- Functions of the program, each with the Lean function that it computes. Conditions: none. -/
import Derived.Test.YtehhgjhileappaaHung
namespace Go.Sky
open Go Go.Eng Go.Proofs
def assign_Total (costs : List (List Int)) (miss : Int) : Int × Int :=
  let r1 := assign_Check costs miss
  cond (r1 != 0) (
    (0, r1)) (
    let r2 := assign_width costs
    let r3 := assign_least costs miss 0 (List.replicate r2.toNat false)
    (r3, 0))

def assign_Best_L2 (costs : List (List Int)) (miss : Int) (k : Nat) : List Int → Nat → Int → Int → (List Bool) → (Int × Int × List Bool)
  | [], _, left_2, choice, taken_3 => (left_2, choice, taken_3)
  | x_2 :: xs, k_2, left_2, choice, taken_3 => cond (decide (x_2 < 0)) (
      assign_Best_L2 costs miss k xs (k_2 + 1) left_2 choice taken_3) (
      cond ((taken_3[k_2]?.getD false)) (
        assign_Best_L2 costs miss k xs (k_2 + 1) left_2 choice taken_3) (
        let r4 := assign_least costs miss (w64 ((k : Int) + 1)) (taken_3.set k_2 true)
        cond ((w64 (x_2 + r4)) == left_2) (
          (w64 (left_2 - x_2), (k_2 : Int), (taken_3.set k_2 true))) (
          assign_Best_L2 costs miss k xs (k_2 + 1) left_2 choice ((taken_3.set k_2 true).set k_2 false))))
def assign_Best_L1 (costs : List (List Int)) (miss : Int) : List (List Int) → Nat → Int → (List Int) → (List Bool) → (List Int × List Bool)
  | [], _, _, out, taken => (out, taken)
  | x :: xs, k, left, out, taken => let r3 := assign_least costs miss (w64 ((k : Int) + 1)) taken
    cond ((w64 (miss + r3)) == left) (
      assign_Best_L1 costs miss xs (k + 1) (w64 (left - miss)) (out ++ ([(-1)])) taken) (
      bindv (assign_Best_L2 costs miss k x 0 left (-1) taken) (fun (left_3, choice_2, taken_4) =>
        assign_Best_L1 costs miss xs (k + 1) left_3 (out ++ ([choice_2])) taken_4))
def assign_Best (costs : List (List Int)) (miss : Int) : List Int × Int × Int :=
  let r1 := assign_Total costs miss
  cond (r1.2 != 0) (
    ([], 0, r1.2)) (
    let r2 := assign_width costs
    bindv (assign_Best_L1 costs miss costs 0 r1.1 ([] : List Int) (List.replicate r2.toNat false)) (fun (out_2, _) =>
      (out_2, r1.1, 0)))

end Go.Sky
