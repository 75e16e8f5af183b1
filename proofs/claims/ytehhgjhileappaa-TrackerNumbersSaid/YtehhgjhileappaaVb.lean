/- Functions of the program, each with the Lean function that it computes. Conditions: none. -/
import Derived.Test.YtehhgjhileappaaVa
namespace Go.Sky
open Go Go.Eng Go.Proofs
def assign_least_L2 : Nat → Nat → (List Int) → (List Int)
  | 0, _, low => low
  | m + 1, k_2, low => assign_least_L2 m (k_2 + 1) (low.set k_2 1152921504606846976)
def assign_least_L4 (costs : List (List Int)) (miss : Int) (from_ : Int) (taken : List Bool) (k : Nat) (row : List Int) (at_ : Int) (u_3 : List Int) (v_3 : List Int) (used : List Bool) : Nat → Nat → Int → Int → (List Int) → (List Int) → (Int × Int × List Int × List Int)
  | 0, _, delta, next, way_5, low_5 => (delta, next, way_5, low_5)
  | m + 1, k_3, delta, next, way_5, low_5 => cond (((used.set at_.toNat true)[(1 + (k_3 : Int)).toNat]?.getD false)) (
      assign_least_L4 costs miss from_ taken k row at_ u_3 v_3 used m (k_3 + 1) delta next way_5 low_5) (
      let r3 := assign_least_1 (w64 (((row.set 0 (1 + (k : Int)))[at_.toNat]?.getD 0) - 1)) (w64 ((1 + (k_3 : Int)) - 1)) (((costs.drop from_.toNat)[0]?.getD []).length : Int) miss taken (costs.drop from_.toNat)
      bindv (cond (decide ((w64 ((w64 (r3 - (u_3[((row.set 0 (1 + (k : Int)))[at_.toNat]?.getD 0).toNat]?.getD 0))) - (v_3[(1 + (k_3 : Int)).toNat]?.getD 0))) < (low_5[(1 + (k_3 : Int)).toNat]?.getD 0))) (
                        ((way_5.set ((1 + (k_3 : Int)).toNat) at_), (low_5.set ((1 + (k_3 : Int)).toNat) (w64 ((w64 (r3 - (u_3[((row.set 0 (1 + (k : Int)))[at_.toNat]?.getD 0).toNat]?.getD 0))) - (v_3[(1 + (k_3 : Int)).toNat]?.getD 0)))))) (
                        (way_5, low_5))) (fun (way_7, low_7) =>
        cond (decide ((low_7[(1 + (k_3 : Int)).toNat]?.getD 0) < delta)) (
          assign_least_L4 costs miss from_ taken k row at_ u_3 v_3 used m (k_3 + 1) (low_7[(1 + (k_3 : Int)).toNat]?.getD 0) (1 + (k_3 : Int)) way_7 low_7) (
          assign_least_L4 costs miss from_ taken k row at_ u_3 v_3 used m (k_3 + 1) delta next way_7 low_7)))
def assign_least_L5 (k : Nat) (row : List Int) (delta_2 : Int) : List Bool → Nat → (List Int) → (List Int) → (List Int) → (List Int × List Int × List Int)
  | [], _, u_5, v_5, low_8 => (u_5, v_5, low_8)
  | x :: xs, k_4, u_5, v_5, low_8 => cond x (
      assign_least_L5 k row delta_2 xs (k_4 + 1) (u_5.set (((row.set 0 (1 + (k : Int)))[k_4]?.getD 0).toNat) (w64 ((u_5[((row.set 0 (1 + (k : Int)))[k_4]?.getD 0).toNat]?.getD 0) + delta_2))) (v_5.set k_4 (w64 ((v_5[k_4]?.getD 0) - delta_2))) low_8) (
      assign_least_L5 k row delta_2 xs (k_4 + 1) u_5 v_5 (low_8.set k_4 (w64 ((low_8[k_4]?.getD 0) - delta_2))))
def assign_least_L3 (costs : List (List Int)) (miss : Int) (from_ : Int) (taken : List Bool) (r2 : Int) (k : Nat) (row : List Int) : Nat → Int → (List Int) → (List Int) → (List Int) → (List Int) → (List Bool) → Option (Int × List Int × List Int × List Int × List Int × List Bool)
  | 0, _, _, _, _, _, _ => none
  | m + 1, at_, u_3, v_3, way_3, low_3, used => bindv (assign_least_L4 costs miss from_ taken k row at_ u_3 v_3 used r2.toNat 0 1152921504606846976 0 way_3 low_3) (fun (delta_2, next_2, way_6, low_6) =>
      bindv (assign_least_L5 k row delta_2 (used.set at_.toNat true) 0 u_3 v_3 low_6) (fun (u_6, v_6, low_9) =>
        cond (((row.set 0 (1 + (k : Int)))[next_2.toNat]?.getD 0) == 0) (
          some ((next_2, u_6, v_6, way_6, low_9, (used.set at_.toNat true)))) (
          assign_least_L3 costs miss from_ taken r2 k row m next_2 u_6 v_6 way_6 low_9 (used.set at_.toNat true))))
def assign_least_L6 (way_4 : List Int) : Nat → Int → (List Int) → Option (List Int)
  | 0, _, _ => none
  | m + 1, at__3, row_3 => cond (at__3 != 0) (
      assign_least_L6 way_4 m (way_4[at__3.toNat]?.getD 0) (row_3.set at__3.toNat (row_3[(way_4[at__3.toNat]?.getD 0).toNat]?.getD 0))) (
      some (row_3))
def assign_least_L1 (costs : List (List Int)) (miss : Int) (from_ : Int) (taken : List Bool) (r2 : Int) : Nat → Nat → (List Int) → (List Int) → (List Int) → (List Int) → (List Int × List Int × List Int × List Int)
  | 0, _, u, v, row, way => (u, v, row, way)
  | m + 1, k, u, v, row, way => bindv (assign_least_L2 ((w64 (r2 + 1)).toNat) 0 (List.replicate ((w64 (r2 + 1)).toNat) (0:Int))) (fun low_2 =>
      bindv ((assign_least_L3 costs miss from_ taken r2 k row 100 0 u v way low_2 (List.replicate ((w64 (r2 + 1)).toNat) false)).getD default) (fun (at__2, u_4, v_4, way_4, _, _) =>
        bindv ((assign_least_L6 way_4 100 at__2 (row.set 0 (1 + (k : Int)))).getD default) (fun row_4 =>
          assign_least_L1 costs miss from_ taken r2 m (k + 1) u_4 v_4 row_4 way_4)))
def assign_least_L7 (costs : List (List Int)) (miss : Int) (from_ : Int) (taken : List Bool) (row_2 : List Int) : Nat → Nat → Int → Int
  | 0, _, sum_ => sum_
  | m + 1, k_5, sum_ => cond (decide ((row_2[(1 + (k_5 : Int)).toNat]?.getD 0) > 0)) (
      let r4 := assign_least_1 (w64 ((row_2[(1 + (k_5 : Int)).toNat]?.getD 0) - 1)) (w64 ((1 + (k_5 : Int)) - 1)) (((costs.drop from_.toNat)[0]?.getD []).length : Int) miss taken (costs.drop from_.toNat)
      assign_least_L7 costs miss from_ taken row_2 m (k_5 + 1) (w64 (sum_ + r4))) (
      assign_least_L7 costs miss from_ taken row_2 m (k_5 + 1) sum_)
def assign_least (costs : List (List Int)) (miss : Int) (from_ : Int) (taken : List Bool) : Int :=
  let r1 := ((costs.drop from_.toNat).length : Int)
  cond (r1 == 0) (
    0) (
    let r2 := w64 ((((costs.drop from_.toNat)[0]?.getD []).length : Int) + r1)
    bindv (assign_least_L1 costs miss from_ taken r2 r1.toNat 0 (List.replicate ((w64 (r1 + 1)).toNat) (0:Int)) (List.replicate ((w64 (r2 + 1)).toNat) (0:Int)) (List.replicate ((w64 (r2 + 1)).toNat) (0:Int)) (List.replicate ((w64 (r2 + 1)).toNat) (0:Int))) (fun (_, _, row_2, _) =>
      bindv (assign_least_L7 costs miss from_ taken row_2 r2.toNat 0 0) (fun sum__2 =>
        sum__2)))

end Go.Sky
