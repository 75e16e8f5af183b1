/- Functions of the program, each with the Lean function that it computes. Conditions: none. -/
import Derived.Test.YtfjchccilkgcnaaAsg
namespace Go.Sky
open Go Go.Eng Go.Proofs
def assign_Total (costs : List (List Int)) (miss : Int) : Int × Int :=
  let r1 := assign_Check costs miss
  cond (r1 != 0) (
    (0, r1)) (
    let r2 := assign_width costs
    let r3 := assign_least costs miss 0 (List.replicate r2.toNat false)
    (r3, 0))

def assign_Best_L2 (costs : List (List Int)) (miss : Int) (k : Nat) : List Int → Nat → Int → Int → (List Bool) → (Int × Int × List Bool)
  | [], _, left_2, choice, taken_3 => (left_2, choice, taken_3)
  | x_2 :: xs, k_2, left_2, choice, taken_3 => cond (decide (x_2 < 0)) (
      assign_Best_L2 costs miss k xs (k_2 + 1) left_2 choice taken_3) (
      cond ((taken_3[k_2]?.getD false)) (
        assign_Best_L2 costs miss k xs (k_2 + 1) left_2 choice taken_3) (
        let r4 := assign_least costs miss (w64 ((k : Int) + 1)) (taken_3.set k_2 true)
        cond ((w64 (x_2 + r4)) == left_2) (
          (w64 (left_2 - x_2), (k_2 : Int), (taken_3.set k_2 true))) (
          assign_Best_L2 costs miss k xs (k_2 + 1) left_2 choice ((taken_3.set k_2 true).set k_2 false))))
def assign_Best_L1 (costs : List (List Int)) (miss : Int) : List (List Int) → Nat → Int → (List Int) → (List Bool) → (List Int × List Bool)
  | [], _, _, out, taken => (out, taken)
  | x :: xs, k, left, out, taken => let r3 := assign_least costs miss (w64 ((k : Int) + 1)) taken
    cond ((w64 (miss + r3)) == left) (
      assign_Best_L1 costs miss xs (k + 1) (w64 (left - miss)) (out ++ ([(-1)])) taken) (
      bindv (assign_Best_L2 costs miss k x 0 left (-1) taken) (fun (left_3, choice_2, taken_4) =>
        assign_Best_L1 costs miss xs (k + 1) left_3 (out ++ ([choice_2])) taken_4))
def assign_Best (costs : List (List Int)) (miss : Int) : List Int × Int × Int :=
  let r1 := assign_Total costs miss
  cond (r1.2 != 0) (
    ([], 0, r1.2)) (
    let r2 := assign_width costs
    bindv (assign_Best_L1 costs miss costs 0 r1.1 ([] : List Int) (List.replicate r2.toNat false)) (fun (out_2, _) =>
      (out_2, r1.1, 0)))

def slices_Equal_int_int_L1 (s2 : List Int) : List Int → Nat → ((Unit) ⊕ (Bool))
  | [], _ => .inl ()
  | x :: xs, k => cond (x != (s2[k]?.getD 0)) (
      .inr false) (
      slices_Equal_int_int_L1 s2 xs (k + 1))
def slices_Equal_int_int (s1 : List Int) (s2 : List Int) : Bool :=
  cond ((s1.length : Int) != (s2.length : Int)) (
    false) (
    Sum.elim (fun _ =>
      true) (fun r => r) (slices_Equal_int_int_L1 s2 s1 0))

def skywaykeep2_assigns : Bool :=
  let r1 := assign_Best ([[3]]) 10
  cond ((r1.2.2 == 0) && (r1.2.1 == 3)) (
    let r2 := slices_Equal_int_int r1.1 ([0])
    r2) (
    false)

def assign_Cost_L1 (costs : List (List Int)) (miss : Int) : List Int → Nat → Int → (List Bool) → ((Int × List Bool) ⊕ (Int × Int))
  | [], _, sum_, taken => .inl (sum_, taken)
  | x :: xs, k, sum_, taken => cond ((decide (x < (-1))) || (decide (x ≥ (taken.length : Int)))) (
      .inr (0, 4)) (
      cond (decide (x < 0)) (
        assign_Cost_L1 costs miss xs (k + 1) (w64 (sum_ + miss)) taken) (
        cond ((taken[x.toNat]?.getD false)) (
          .inr (0, 7)) (
          cond (decide (((costs[k]?.getD [])[x.toNat]?.getD 0) < 0)) (
            .inr (0, 8)) (
            assign_Cost_L1 costs miss xs (k + 1) (w64 (sum_ + ((costs[k]?.getD [])[x.toNat]?.getD 0))) (taken.set x.toNat true)))))
def assign_Cost (costs : List (List Int)) (miss : Int) (to : List Int) : Int × Int :=
  let r1 := assign_Check costs miss
  cond (r1 != 0) (
    (0, r1)) (
    cond ((to.length : Int) != (costs.length : Int)) (
      (0, 3)) (
      let r2 := assign_width costs
      Sum.elim (fun (sum__2, _) =>
        (sum__2, 0)) (fun r => r) (assign_Cost_L1 costs miss to 0 0 (List.replicate r2.toNat false))))

def skywaykeep2_AssignLeast (costs : List (List Int)) (miss : Int) (other : List Int) : Bool :=
  let r1 := skywaykeep2_assigns
  cond (!r1) (
    false) (
    let r2 := assign_Best costs miss
    cond (r2.2.2 != 0) (
      ((r2.1.length : Int) == 0) && (r2.2.1 == 0)) (
      let r3 := assign_Cost costs miss r2.1
      let r4 := assign_Cost costs miss other
      cond ((r3.2 == 0) && (r3.1 == r2.2.1)) (
        cond (r4.2 != 0) (
          true) (
          decide (r4.1 ≥ r2.2.1))) (
        false)))

end Go.Sky
