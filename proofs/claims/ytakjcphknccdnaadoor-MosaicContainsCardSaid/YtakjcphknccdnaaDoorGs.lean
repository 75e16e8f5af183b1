/- Functions of the program, each with the Lean function that it computes. Conditions: none. -/
import Derived.Test.YtakjcphknccdnaaDoorGa
import Derived.Test.YtakjcphknccdnaaDoorSinF
namespace Go.Sky
open Go Go.Eng Go.Proofs
theorem bit_in (x : Int) (m : Nat) (hm : m < 18446744073709551616) : 0 ≤ kand .u64 x (m : Int) ∧ kand .u64 x (m : Int) ≤ m := by
  have e : kand .u64 x (m : Int) = (((BitVec.ofInt 64 x).toNat &&& m : Nat) : Int) := by
    have e0 : kand .u64 x (m : Int) = kand .u64 (((BitVec.ofInt 64 x).toNat : Nat) : Int) (m : Int) := by
      unfold kand
      have : BitVec.ofInt IntKind.u64.bits (((BitVec.ofInt 64 x).toNat : Nat) : Int) = BitVec.ofInt IntKind.u64.bits x := by
        show BitVec.ofInt 64 _ = BitVec.ofInt 64 x
        rw [BitVec.ofInt_natCast, BitVec.ofNat_toNat, BitVec.setWidth_eq]
      rw [this]
    rw [e0, fkand_u64 (BitVec.isLt _) hm]
  rw [e]
  have := Nat.and_le_right (n := (BitVec.ofInt 64 x).toNat) (m := m)
  omega
theorem sj_in {x : Nat} [h : Po 14 x] : 0 ≤ sinJ x ∧ (sinJ x).natAbs ≤ 2 ^ 15 := f2i_po (e := 15)
theorem sj_dbl {x : Nat} [h : Po 14 x] : Po 16 (dbl (f2i (fmul x 4608412980311869571))) := by
  have s := sj_in (x := x)
  exact po_dbl 16 (show (sinJ x).natAbs < 2 ^ 16 by have := s.2; omega) s.1
theorem sj_T {x : Nat} [h : Po 14 x] (h2 : kand .u64 (f2i (fmul x 4608412980311869571)) 1 = 1) : wu64 (f2i (fmul x 4608412980311869571) + 1) = sinK x ∧ fadd (dbl (f2i (fmul x 4608412980311869571))) 4607182418800017408 = sinY x ∧ Po 17 (fadd (dbl (f2i (fmul x 4608412980311869571))) 4607182418800017408) := by
  have o : sinO x = true := by unfold sinO sinJ; rw [h2]; rfl
  refine ⟨by unfold sinK; rw [o]; rfl, by unfold sinY; rw [o]; rfl, ?_⟩
  have i_ := sj_dbl (x := x)
  exact inst_po
theorem sj_F {x : Nat} [h : Po 14 x] (h2 : ¬ kand .u64 (f2i (fmul x 4608412980311869571)) 1 = 1) : f2i (fmul x 4608412980311869571) = sinK x ∧ dbl (f2i (fmul x 4608412980311869571)) = sinY x ∧ Po 17 (dbl (f2i (fmul x 4608412980311869571))) := by
  have o : sinO x = false := by unfold sinO sinJ; exact beq_false_of_ne h2
  refine ⟨by unfold sinK; rw [o]; rfl, by unfold sinY; rw [o]; rfl, ?_⟩
  exact po_up (sj_dbl (x := x))
theorem sr_x {x : Nat} (h : feq x 0 = true) : x = sinF x := by unfold sinF; rw [h]; rfl
def sinS (x : Nat) : Bool := decide (sinM x > 3)
def sinN4 (x : Nat) : Int := bif sinS x then wu64 (sinM x - 4) else sinM x
theorem sinF_eq {x : Nat} (h : feq x 0 = false) : sinF x = bif sinS x then fneg (sinQ (sinN4 x) (sinZ x)) else sinQ (sinN4 x) (sinZ x) := by
  unfold sinF sinN4 sinS; rw [h]
  cases decide (sinM x > 3) <;> rfl
theorem n4_T {x : Nat} {j : Int} (hj : j = sinK x) (h : kand .u64 j 7 > 3) : true = sinS x ∧ wu64 (kand .u64 j 7 - 4) = sinN4 x := by
  subst hj
  have o : sinS x = true := decide_eq_true h
  exact ⟨o.symm, by unfold sinN4; rw [o]; rfl⟩
theorem n4_F {x : Nat} {j : Int} (hj : j = sinK x) (h : ¬ kand .u64 j 7 > 3) : false = sinS x ∧ kand .u64 j 7 = sinN4 x := by
  subst hj
  have o : sinS x = false := decide_eq_false h
  exact ⟨o.symm, by unfold sinN4; rw [o]; rfl⟩
theorem q_T {x y0 z zz : Nat} {j : Int} (hj : j = sinN4 x) (h0 : y0 = sinY x) (hz : fsub (fsub (fsub x (fmul y0 4605249456957292544)) (fmul y0 4495793288086814720)) (fmul y0 4388835458085048688) = z) (hzz : fmul z z = zz) (h : (j == 1 || j == 2) = true) : cosP zz = sinQ (sinN4 x) (sinZ x) := by
  subst h0 hz hzz hj
  unfold sinQ; rw [h]; rfl
theorem q_F {x y0 z zz : Nat} {j : Int} (hj : j = sinN4 x) (h0 : y0 = sinY x) (hz : fsub (fsub (fsub x (fmul y0 4605249456957292544)) (fmul y0 4495793288086814720)) (fmul y0 4388835458085048688) = z) (hzz : fmul z z = zz) (h : (j == 1 || j == 2) = false) : sinP z zz = sinQ (sinN4 x) (sinZ x) := by
  subst h0 hz hzz hj
  unfold sinQ; rw [h]; rfl
theorem sr_T {x y : Nat} {s : Bool} (h : feq x 0 = false) (hs : s = sinS x) (h1 : s = true) (hy : y = sinQ (sinN4 x) (sinZ x)) : fneg y = sinF x := by
  subst hy
  rw [sinF_eq h, ← hs, h1]; rfl
theorem sr_F {x y : Nat} {s : Bool} (h : feq x 0 = false) (hs : s = sinS x) (h1 : s = false) (hy : y = sinQ (sinN4 x) (sinZ x)) : y = sinF x := by
  subst hy
  rw [sinF_eq h, ← hs, h1]; rfl

set_option maxHeartbeats 4000000 in
set_option maxRecDepth 100000 in
theorem math_sin_w (x : Nat) (w : World) (hM : Sat ⟨w, feet []⟩ [] w) (hx : Po 14 x) (hl : x < 18446744073709551616) (hT : Tabs w) : Calls Tryd.prog 87 #[.float .f64 x] w (RetM (Γ := Nat) ⟨w, feet []⟩ (fun g => .float .f64 g) (fun g => [.inr (Fact (g = sinF x))])) := by
  refine calls_introM (w0 := ⟨w, feet []⟩) (vs := [.float .f64 x]) hM Tryd.func87 rfl Tryd.ntmps87 rfl ?_
  refine TC.weak [(0, .float .f64 x)] (by kernel_rfl) ?_
  refine TC.seq ?_
  refine TC.region ?_
  refine TL.run 1 [] [(0, .float .f64 x)] rfl ⟨by kernel_rfl, by kernel_rfl⟩ ?_
  refine TL.next rfl ?_
  refine TC.seq ?_
  refine TC.block ?_
  refine TC.seq ?_
  refine TC.region ?_
  refine TL.run 3 [] [(0, .float .f64 x), (11, .bool (feq x 0))] rfl ⟨by kernel_rfl, by kernel_rfl⟩ ?_
  refine TL.split 11 (feq x 0) (by kernel_rfl) (fun h1 => ?_) (fun h1 => ?_)
  · refine TL.run 7 [] [(0, .float .f64 x), (8, .bool true)] rfl ⟨by kernel_rfl, by kernel_rfl⟩ ?_
    refine TL.next rfl ?_
    refine TC.condT rfl (by kernel_rfl) ?_
    refine TC.seq ?_
    refine TC.region ?_
    refine TL.run 2 [] [(2, .float .f64 x)] rfl ⟨by kernel_rfl, by kernel_rfl⟩ ?_
    refine TL.next rfl ?_
    refine TC.ret ?_
    refine TE.ret_block (TE.ret_then ?_)
    exact TE.retM (.inl rfl) x [] (.float .f64 x) ⟨by kernel_rfl, by kernel_rfl⟩ rfl (fun _ hM => (hM.sub (.slnil)).fact (by (try have by_ := hm4.2.2); (try have bz_ := bd_let hr2); (try have bzz_ := po_let hr3); (try dsimp only); first | exact sr_x h1 | exact sr_T h1 hm5.1 (by assumption) hm6 | exact sr_F h1 hm5.1 (by assumption) hm6))
  · refine TL.run 4 [] [(0, .float .f64 x), (11, .bool false), (12, .float .f64 x)] rfl ⟨by kernel_rfl, by kernel_rfl⟩ ?_
    refine TL.call (some 13) [(0, .float .f64 x), (11, .bool false), (13, .bool ((math_IsNaN x)))] (fun w _ => math_IsNaN_w x w) (by kernel_rfl) (by kernel_rfl) ?_
    generalize hr1 : math_IsNaN x = r1
    refine TL.run 7 [] [(0, .float .f64 x), (8, .bool r1)] rfl ⟨by kernel_rfl, by kernel_rfl⟩ ?_
    refine TL.next rfl ?_
    refine TC.cond r1 rfl (by kernel_rfl) (fun h2 => ?_) (fun h2 => ?_)
    · exact ((by rw [← hr1, isnan_no] at h2; cases h2) : False).elim
    · refine TC.seq ?_
      refine TC.region ?_
      refine TL.run 1 [] [(0, .float .f64 x), (17, .float .f64 x)] rfl ⟨by kernel_rfl, by kernel_rfl⟩ ?_
      refine TL.callM (Γ := Bool) (fun g => .bool g) (fun g => [.inr (Fact (g = false))]) [] [] (some 18) (fun g => [(0, .float .f64 x), (18, .bool g)]) (fun w hM => math_IsInf_w x 0 w hM.pass rfl inst_bd hl) (by kernel_rfl) (fun g => by kernel_rfl) ?_
      rintro r_
      refine TL.conv [.inr (Fact (r_ = false))] (fun _ hM => hM) ?_
      refine TL.know (fun w hM => hM.fact_at 0 rfl) (fun hp_math_IsInf => ?_)
      refine TL.forget [] (.cons _ (List.Sublist.refl _)) ?_
      refine TL.run 3 [] [(0, .float .f64 x), (16, .bool r_)] rfl ⟨by kernel_rfl, by kernel_rfl⟩ ?_
      refine TL.next rfl ?_
      refine TC.cond r_ rfl (by kernel_rfl) (fun h3 => ?_) (fun h3 => ?_)
      · exact ((by rw [hp_math_IsInf] at h3; cases h3) : False).elim
      · refine TC.skip ?_
        refine TE.normal_block ?_
        refine TE.next ?_
        refine TC.seq ?_
        refine TC.region ?_
        refine TL.run 1 [] [(0, .float .f64 x), (3, .bool false)] rfl ⟨by kernel_rfl, by kernel_rfl⟩ ?_
        refine TL.next rfl ?_
        refine TC.seq ?_
        refine TC.seq ?_
        refine TC.region ?_
        refine TL.run 2 [] [(0, .float .f64 x), (3, .bool false), (21, .bool (flt x 0))] rfl ⟨by kernel_rfl, by kernel_rfl⟩ ?_
        refine TL.next rfl ?_
        refine TC.cond (flt x 0) rfl (by kernel_rfl) (fun h4 => ?_) (fun h4 => ?_)
        · exact ((by rw [flt_po] at h4; cases h4) : False).elim
        · refine TC.skip ?_
          refine TE.next ?_
          refine TC.seq ?_
          refine TC.region ?_
          refine TL.run 1 [] [(0, .float .f64 x), (3, .bool false)] rfl ⟨by kernel_rfl, by kernel_rfl⟩ ?_
          refine TL.next rfl ?_
          refine TC.seq ?_
          refine TC.region ?_
          refine TL.run 2 [] [(0, .float .f64 x), (3, .bool false)] rfl ⟨by kernel_rfl, by kernel_rfl⟩ ?_
          refine TL.next rfl ?_
          refine TC.seq ?_
          refine TC.seq ?_
          refine TC.region ?_
          refine TL.run 2 [] [(0, .float .f64 x), (3, .bool false), (25, .bool (fge x 4737786807993761792))] rfl ⟨by kernel_rfl, by kernel_rfl⟩ ?_
          refine TL.next rfl ?_
          refine TC.cond (fge x 4737786807993761792) rfl (by kernel_rfl) (fun h5 => ?_) (fun h5 => ?_)
          · exact ((by rw [fge_thr] at h5; cases h5) : False).elim
          · refine TC.seq ?_
            refine TC.region ?_
            refine TL.run 1 [] [(0, .float .f64 x), (3, .bool false), (31, .float .f64 x)] rfl ⟨by kernel_rfl, by kernel_rfl⟩ ?_
            refine TL.val (sV (binOp .mul 72 (.float .f64 x) (.float .f64 4608412980311869571))) (some 32) (.float .f64 (fmul x 4608412980311869571)) [(0, .float .f64 x), (3, .bool false), (32, .float .f64 (fmul x 4608412980311869571))] (fun w hM => run_fmul (by (try have by_ := hm4.2.2); (try have bz_ := bd_let hr2); (try have bzz_ := po_let hr3); exact fmS)) (by kernel_rfl) (by kernel_rfl) ?_
            refine TL.val (sV (convert 72 93 (.float .f64 (fmul x 4608412980311869571)))) (some 33) (.int .u64 (f2i (fmul x 4608412980311869571))) [(0, .float .f64 x), (3, .bool false), (33, .int .u64 (f2i (fmul x 4608412980311869571)))] (fun w hM => run_f2i (by kernel_rfl) (by kernel_rfl) (by (try have by_ := hm4.2.2); (try have bz_ := bd_let hr2); (try have bzz_ := po_let hr3); exact f2S_u64)) (by kernel_rfl) (by kernel_rfl) ?_
            refine TL.run 4 [] [(0, .float .f64 x), (3, .bool false), (4, .int .u64 (f2i (fmul x 4608412980311869571)))] rfl ⟨by kernel_rfl, by kernel_rfl⟩ ?_
            refine TL.next rfl ?_
            refine TC.seq ?_
            refine TC.region ?_
            refine TL.run 3 [] [(0, .float .f64 x), (3, .bool false), (4, .int .u64 (f2i (fmul x 4608412980311869571))), (5, .float .f64 (dbl (f2i (fmul x 4608412980311869571))))] rfl ⟨by kernel_rfl, by kernel_rfl⟩ ?_
            refine TL.next rfl ?_
            refine TC.seq ?_
            refine TC.seq ?_
            refine TC.region ?_
            refine TL.run 3 [] [(0, .float .f64 x), (3, .bool false), (4, .int .u64 (f2i (fmul x 4608412980311869571))), (5, .float .f64 (dbl (f2i (fmul x 4608412980311869571)))), (38, .bool ((kand .u64 (f2i (fmul x 4608412980311869571)) 1) == 1))] rfl ⟨by kernel_rfl, by kernel_rfl⟩ ?_
            refine TL.next rfl ?_
            refine TC.cut (S := Int × Nat) (fun (j, y) => [(0, .float .f64 x), (3, .bool false), (4, .int .u64 j), (5, .float .f64 y)]) (fun (j, y) => []) (fun (j, y) => (j = sinK x ∧ y = sinY x ∧ Po 17 y)) ?_ ?_
            · refine TC.cond ((kand .u64 (f2i (fmul x 4608412980311869571)) 1) == 1) rfl (by kernel_rfl) (fun h6 => ?_) (fun h6 => ?_)
              · refine TC.seq ?_
                refine TC.region ?_
                refine TL.run 3 [] [(0, .float .f64 x), (3, .bool false), (4, .int .u64 (wu64 ((f2i (fmul x 4608412980311869571)) + 1))), (5, .float .f64 (dbl (f2i (fmul x 4608412980311869571))))] rfl ⟨by kernel_rfl, by kernel_rfl⟩ ?_
                refine TL.next rfl ?_
                refine TC.region ?_
                refine TL.run 1 [] [(0, .float .f64 x), (3, .bool false), (4, .int .u64 (wu64 ((f2i (fmul x 4608412980311869571)) + 1))), (41, .float .f64 (dbl (f2i (fmul x 4608412980311869571))))] rfl ⟨by kernel_rfl, by kernel_rfl⟩ ?_
                refine TL.val (sV (binOp .add 72 (.float .f64 (dbl (f2i (fmul x 4608412980311869571)))) (.float .f64 4607182418800017408))) (some 42) (.float .f64 (fadd (dbl (f2i (fmul x 4608412980311869571))) 4607182418800017408)) [(0, .float .f64 x), (3, .bool false), (4, .int .u64 (wu64 ((f2i (fmul x 4608412980311869571)) + 1))), (42, .float .f64 (fadd (dbl (f2i (fmul x 4608412980311869571))) 4607182418800017408))] (fun w hM => run_fadd (by have i_ := sj_dbl (x := x); exact faS)) (by kernel_rfl) (by kernel_rfl) ?_
                refine TL.run 3 [] [(0, .float .f64 x), (3, .bool false), (4, .int .u64 (wu64 ((f2i (fmul x 4608412980311869571)) + 1))), (5, .float .f64 (fadd (dbl (f2i (fmul x 4608412980311869571))) 4607182418800017408))] rfl ⟨by kernel_rfl, by kernel_rfl⟩ ?_
                refine TL.done rfl ?_
                exact TE.cut (wu64 ((f2i (fmul x 4608412980311869571)) + 1), fadd (dbl (f2i (fmul x 4608412980311869571))) 4607182418800017408) (by have q0_ := (beq_t h6); (try have by_ := hm4.2.2); (try have bz_ := bd_let hr2); (try have bzz_ := po_let hr3); subst hr1; (try dsimp only); first | exact sj_T (beq_iff_eq.1 (by assumption)) | exact sj_F (beq_eq_false_iff_ne.1 (by assumption))) (by kernel_rfl) (.slnil)
              · refine TC.skip ?_
                exact TE.cut (f2i (fmul x 4608412980311869571), dbl (f2i (fmul x 4608412980311869571))) (by have q0_ := (beq_f h6); (try have by_ := hm4.2.2); (try have bz_ := bd_let hr2); (try have bzz_ := po_let hr3); subst hr1; (try dsimp only); first | exact sj_T (beq_iff_eq.1 (by assumption)) | exact sj_F (beq_eq_false_iff_ne.1 (by assumption))) (by kernel_rfl) (.slnil)
            · rintro ⟨j, y⟩ hm4
              refine TE.next ?_
              refine TC.seq ?_
              refine TC.region ?_
              refine TL.run 3 [] [(0, .float .f64 x), (3, .bool false), (4, .int .u64 (kand .u64 j 7)), (5, .float .f64 y)] rfl ⟨by kernel_rfl, by kernel_rfl⟩ ?_
              refine TL.next rfl ?_
              refine TC.region ?_
              refine TL.run 2 [] [(3, .bool false), (4, .int .u64 (kand .u64 j 7)), (5, .float .f64 y), (45, .float .f64 x), (46, .float .f64 y)] rfl ⟨by kernel_rfl, by kernel_rfl⟩ ?_
              refine TL.val (sV (binOp .mul 72 (.float .f64 y) (.float .f64 4605249456957292544))) (some 47) (.float .f64 (fmul y 4605249456957292544)) [(3, .bool false), (4, .int .u64 (kand .u64 j 7)), (5, .float .f64 y), (45, .float .f64 x), (47, .float .f64 (fmul y 4605249456957292544))] (fun w hM => run_fmul (by (try have by_ := hm4.2.2); (try have bz_ := bd_let hr2); (try have bzz_ := po_let hr3); exact fmS)) (by kernel_rfl) (by kernel_rfl) ?_
              refine TL.val (sV (binOp .sub 72 (.float .f64 x) (.float .f64 (fmul y 4605249456957292544)))) (some 48) (.float .f64 (fsub x (fmul y 4605249456957292544))) [(3, .bool false), (4, .int .u64 (kand .u64 j 7)), (5, .float .f64 y), (48, .float .f64 (fsub x (fmul y 4605249456957292544)))] (fun w hM => run_fsub (by (try have by_ := hm4.2.2); (try have bz_ := bd_let hr2); (try have bzz_ := po_let hr3); exact fsS)) (by kernel_rfl) (by kernel_rfl) ?_
              refine TL.run 5 [] [(3, .bool false), (4, .int .u64 (kand .u64 j 7)), (5, .float .f64 y), (48, .float .f64 (fsub x (fmul y 4605249456957292544))), (49, .float .f64 y)] rfl ⟨by kernel_rfl, by kernel_rfl⟩ ?_
              refine TL.val (sV (binOp .mul 72 (.float .f64 y) (.float .f64 4495793288086814720))) (some 50) (.float .f64 (fmul y 4495793288086814720)) [(3, .bool false), (4, .int .u64 (kand .u64 j 7)), (5, .float .f64 y), (48, .float .f64 (fsub x (fmul y 4605249456957292544))), (50, .float .f64 (fmul y 4495793288086814720))] (fun w hM => run_fmul (by (try have by_ := hm4.2.2); (try have bz_ := bd_let hr2); (try have bzz_ := po_let hr3); exact fmS)) (by kernel_rfl) (by kernel_rfl) ?_
              refine TL.val (sV (binOp .sub 72 (.float .f64 (fsub x (fmul y 4605249456957292544))) (.float .f64 (fmul y 4495793288086814720)))) (some 51) (.float .f64 (fsub (fsub x (fmul y 4605249456957292544)) (fmul y 4495793288086814720))) [(3, .bool false), (4, .int .u64 (kand .u64 j 7)), (5, .float .f64 y), (51, .float .f64 (fsub (fsub x (fmul y 4605249456957292544)) (fmul y 4495793288086814720)))] (fun w hM => run_fsub (by (try have by_ := hm4.2.2); (try have bz_ := bd_let hr2); (try have bzz_ := po_let hr3); exact fsS)) (by kernel_rfl) (by kernel_rfl) ?_
              refine TL.run 8 [] [(3, .bool false), (4, .int .u64 (kand .u64 j 7)), (51, .float .f64 (fsub (fsub x (fmul y 4605249456957292544)) (fmul y 4495793288086814720))), (52, .float .f64 y)] rfl ⟨by kernel_rfl, by kernel_rfl⟩ ?_
              refine TL.val (sV (binOp .mul 72 (.float .f64 y) (.float .f64 4388835458085048688))) (some 53) (.float .f64 (fmul y 4388835458085048688)) [(3, .bool false), (4, .int .u64 (kand .u64 j 7)), (51, .float .f64 (fsub (fsub x (fmul y 4605249456957292544)) (fmul y 4495793288086814720))), (53, .float .f64 (fmul y 4388835458085048688))] (fun w hM => run_fmul (by (try have by_ := hm4.2.2); (try have bz_ := bd_let hr2); (try have bzz_ := po_let hr3); exact fmS)) (by kernel_rfl) (by kernel_rfl) ?_
              refine TL.val (sV (binOp .sub 72 (.float .f64 (fsub (fsub x (fmul y 4605249456957292544)) (fmul y 4495793288086814720))) (.float .f64 (fmul y 4388835458085048688)))) (some 54) (.float .f64 (fsub (fsub (fsub x (fmul y 4605249456957292544)) (fmul y 4495793288086814720)) (fmul y 4388835458085048688))) [(3, .bool false), (4, .int .u64 (kand .u64 j 7)), (54, .float .f64 (fsub (fsub (fsub x (fmul y 4605249456957292544)) (fmul y 4495793288086814720)) (fmul y 4388835458085048688)))] (fun w hM => run_fsub (by (try have by_ := hm4.2.2); (try have bz_ := bd_let hr2); (try have bzz_ := po_let hr3); exact fsS)) (by kernel_rfl) (by kernel_rfl) ?_
              refine TL.run 11 [] [(3, .bool false), (4, .int .u64 (kand .u64 j 7)), (6, .float .f64 (fsub (fsub (fsub x (fmul y 4605249456957292544)) (fmul y 4495793288086814720)) (fmul y 4388835458085048688)))] rfl ⟨by kernel_rfl, by kernel_rfl⟩ ?_
              generalize hr2 : fsub (fsub (fsub x (fmul y 4605249456957292544)) (fmul y 4495793288086814720)) (fmul y 4388835458085048688) = r2
              refine TL.next rfl ?_
              refine TC.seq ?_
              refine TC.seq ?_
              refine TC.region ?_
              refine TL.run 2 [] [(3, .bool false), (4, .int .u64 (kand .u64 j 7)), (6, .float .f64 r2), (56, .bool (decide ((kand .u64 j 7) > 3)))] rfl ⟨by kernel_rfl, by kernel_rfl⟩ ?_
              refine TL.next rfl ?_
              refine TC.cut (S := Bool × Int) (fun (sign, j_2) => [(3, .bool sign), (4, .int .u64 j_2), (6, .float .f64 r2)]) (fun (sign, j_2) => []) (fun (sign, j_2) => (sign = sinS x ∧ j_2 = sinN4 x)) ?_ ?_
              · refine TC.cond (decide ((kand .u64 j 7) > 3)) rfl (by kernel_rfl) (fun h7 => ?_) (fun h7 => ?_)
                · refine TC.seq ?_
                  refine TC.region ?_
                  refine TL.run 3 [] [(3, .bool true), (4, .int .u64 (kand .u64 j 7)), (6, .float .f64 r2)] rfl ⟨by kernel_rfl, by kernel_rfl⟩ ?_
                  refine TL.next rfl ?_
                  refine TC.region ?_
                  refine TL.run 3 [] [(3, .bool true), (4, .int .u64 (wu64 ((kand .u64 j 7) - 4))), (6, .float .f64 r2)] rfl ⟨by kernel_rfl, by kernel_rfl⟩ ?_
                  refine TL.done rfl ?_
                  exact TE.cut (true, wu64 ((kand .u64 j 7) - 4)) (by have q0_ := (dec_t h7); (try have by_ := hm4.2.2); (try have bz_ := bd_let hr2); (try have bzz_ := po_let hr3); subst hr1 hr2; (try dsimp only); first | exact n4_T hm4.1 (by omega) | exact n4_F hm4.1 (by omega)) (by kernel_rfl) (.slnil)
                · refine TC.skip ?_
                  exact TE.cut (false, kand .u64 j 7) (by have q0_ := (dec_f h7); (try have by_ := hm4.2.2); (try have bz_ := bd_let hr2); (try have bzz_ := po_let hr3); subst hr1 hr2; (try dsimp only); first | exact n4_T hm4.1 (by omega) | exact n4_F hm4.1 (by omega)) (by kernel_rfl) (.slnil)
              · rintro ⟨sign, j_2⟩ hm5
                refine TE.next ?_
                refine TC.seq ?_
                refine TC.region ?_
                refine TL.run 2 [] [(3, .bool sign), (4, .int .u64 j_2), (6, .float .f64 r2), (61, .float .f64 r2), (62, .float .f64 r2)] rfl ⟨by kernel_rfl, by kernel_rfl⟩ ?_
                refine TL.val (sV (binOp .mul 72 (.float .f64 r2) (.float .f64 r2))) (some 63) (.float .f64 (fmul r2 r2)) [(3, .bool sign), (4, .int .u64 j_2), (6, .float .f64 r2), (63, .float .f64 (fmul r2 r2))] (fun w hM => run_fmul (by (try have by_ := hm4.2.2); (try have bz_ := bd_let hr2); (try have bzz_ := po_let hr3); exact fmS)) (by kernel_rfl) (by kernel_rfl) ?_
                refine TL.run 4 [] [(3, .bool sign), (4, .int .u64 j_2), (6, .float .f64 r2), (7, .float .f64 (fmul r2 r2))] rfl ⟨by kernel_rfl, by kernel_rfl⟩ ?_
                generalize hr3 : fmul r2 r2 = r3
                refine TL.next rfl ?_
                refine TC.seq ?_
                refine TC.seq ?_
                refine TC.region ?_
                refine TL.run 3 [] [(3, .bool sign), (4, .int .u64 j_2), (6, .float .f64 r2), (7, .float .f64 r3), (66, .bool (j_2 == 1))] rfl ⟨by kernel_rfl, by kernel_rfl⟩ ?_
                refine TL.join 66 (j_2 == 1) 6 [] [] (fun β => [(3, .bool sign), (6, .float .f64 r2), (7, .float .f64 r3), (69, .bool (β || (j_2 == 2)))]) (by kernel_rfl) rfl ⟨by kernel_rfl, by kernel_rfl⟩ ⟨by kernel_rfl, by kernel_rfl⟩ ?_
                refine TL.next rfl ?_
                refine TC.cut (S := Nat) (fun y_2 => [(3, .bool sign), (5, .float .f64 y_2)]) (fun y_2 => []) (fun y_2 => (y_2 = sinQ (sinN4 x) (sinZ x))) ?_ ?_
                · refine TC.cond ((j_2 == 1) || (j_2 == 2)) rfl (by kernel_rfl) (fun h8 => ?_) (fun h8 => ?_)
                  · refine TC.region ?_
                    refine TL.run 1 [] [(3, .bool sign), (7, .float .f64 r3), (70, .float .f64 r3)] rfl ⟨by kernel_rfl, by kernel_rfl⟩ ?_
                    refine TL.val (sV (binOp .mul 72 (.float .f64 4602678819172646912) (.float .f64 r3))) (some 71) (.float .f64 (fmul 4602678819172646912 r3)) [(3, .bool sign), (7, .float .f64 r3), (71, .float .f64 (fmul 4602678819172646912 r3))] (fun w hM => run_fmul (by have q0_ := ((or_t h8).imp (fun h => (beq_t h)) (fun h => (beq_t h))); (try have by_ := hm4.2.2); (try have bz_ := bd_let hr2); (try have bzz_ := po_let hr3); exact fmS)) (by kernel_rfl) (by kernel_rfl) ?_
                    refine TL.val (sV (binOp .sub 72 (.float .f64 4607182418800017408) (.float .f64 (fmul 4602678819172646912 r3)))) (some 72) (.float .f64 (fsub 4607182418800017408 (fmul 4602678819172646912 r3))) [(3, .bool sign), (7, .float .f64 r3), (72, .float .f64 (fsub 4607182418800017408 (fmul 4602678819172646912 r3)))] (fun w hM => run_fsub (by have q0_ := ((or_t h8).imp (fun h => (beq_t h)) (fun h => (beq_t h))); (try have by_ := hm4.2.2); (try have bz_ := bd_let hr2); (try have bzz_ := po_let hr3); exact fsS)) (by kernel_rfl) (by kernel_rfl) ?_
                    refine TL.run 5 [] [(3, .bool sign), (7, .float .f64 r3), (72, .float .f64 (fsub 4607182418800017408 (fmul 4602678819172646912 r3))), (73, .float .f64 r3), (74, .float .f64 r3)] rfl ⟨by kernel_rfl, by kernel_rfl⟩ ?_
                    refine TL.val (sV (binOp .mul 72 (.float .f64 r3) (.float .f64 r3))) (some 75) (.float .f64 (fmul r3 r3)) [(3, .bool sign), (7, .float .f64 r3), (72, .float .f64 (fsub 4607182418800017408 (fmul 4602678819172646912 r3))), (75, .float .f64 (fmul r3 r3))] (fun w hM => run_fmul (by have q0_ := ((or_t h8).imp (fun h => (beq_t h)) (fun h => (beq_t h))); (try have by_ := hm4.2.2); (try have bz_ := bd_let hr2); (try have bzz_ := po_let hr3); exact fmS)) (by kernel_rfl) (by kernel_rfl) ?_
                    refine TL.run 7 [] [(3, .bool sign), (7, .float .f64 r3), (72, .float .f64 (fsub 4607182418800017408 (fmul 4602678819172646912 r3))), (75, .float .f64 (fmul r3 r3)), (76, .pointer (some ⟨1, 0, none⟩))] rfl ⟨by kernel_rfl, by kernel_rfl⟩ ?_
                    refine TL.val (sV (Instr.loadAt 72 (.pointer (some ⟨1, 0, none⟩)))) (some 77) (.float .f64 13666448263388469915) [(3, .bool sign), (7, .float .f64 r3), (72, .float .f64 (fsub 4607182418800017408 (fmul 4602678819172646912 r3))), (75, .float .f64 (fmul r3 r3)), (77, .float .f64 13666448263388469915)] (fun w hM => run_load_tab (i := 0) ((hT.1).sat hM) rfl (by kernel_rfl)) (by kernel_rfl) (by kernel_rfl) ?_
                    refine TL.run 9 [] [(3, .bool sign), (7, .float .f64 r3), (72, .float .f64 (fsub 4607182418800017408 (fmul 4602678819172646912 r3))), (75, .float .f64 (fmul r3 r3)), (77, .float .f64 13666448263388469915), (78, .float .f64 r3)] rfl ⟨by kernel_rfl, by kernel_rfl⟩ ?_
                    refine TL.val (sV (binOp .mul 72 (.float .f64 13666448263388469915) (.float .f64 r3))) (some 79) (.float .f64 (fmul 13666448263388469915 r3)) [(3, .bool sign), (7, .float .f64 r3), (72, .float .f64 (fsub 4607182418800017408 (fmul 4602678819172646912 r3))), (75, .float .f64 (fmul r3 r3)), (79, .float .f64 (fmul 13666448263388469915 r3))] (fun w hM => run_fmul (by have q0_ := ((or_t h8).imp (fun h => (beq_t h)) (fun h => (beq_t h))); (try have by_ := hm4.2.2); (try have bz_ := bd_let hr2); (try have bzz_ := po_let hr3); exact fmS)) (by kernel_rfl) (by kernel_rfl) ?_
                    refine TL.run 11 [] [(3, .bool sign), (7, .float .f64 r3), (72, .float .f64 (fsub 4607182418800017408 (fmul 4602678819172646912 r3))), (75, .float .f64 (fmul r3 r3)), (79, .float .f64 (fmul 13666448263388469915 r3)), (80, .pointer (some ⟨1, 1, none⟩))] rfl ⟨by kernel_rfl, by kernel_rfl⟩ ?_
                    refine TL.val (sV (Instr.loadAt 72 (.pointer (some ⟨1, 1, none⟩)))) (some 81) (.float .f64 4477121864728985349) [(3, .bool sign), (7, .float .f64 r3), (72, .float .f64 (fsub 4607182418800017408 (fmul 4602678819172646912 r3))), (75, .float .f64 (fmul r3 r3)), (79, .float .f64 (fmul 13666448263388469915 r3)), (81, .float .f64 4477121864728985349)] (fun w hM => run_load_tab (i := 1) ((hT.1).sat hM) rfl (by kernel_rfl)) (by kernel_rfl) (by kernel_rfl) ?_
                    refine TL.val (sV (binOp .add 72 (.float .f64 (fmul 13666448263388469915 r3)) (.float .f64 4477121864728985349))) (some 82) (.float .f64 (fadd (fmul 13666448263388469915 r3) 4477121864728985349)) [(3, .bool sign), (7, .float .f64 r3), (72, .float .f64 (fsub 4607182418800017408 (fmul 4602678819172646912 r3))), (75, .float .f64 (fmul r3 r3)), (82, .float .f64 (fadd (fmul 13666448263388469915 r3) 4477121864728985349))] (fun w hM => run_fadd (by have q0_ := ((or_t h8).imp (fun h => (beq_t h)) (fun h => (beq_t h))); (try have by_ := hm4.2.2); (try have bz_ := bd_let hr2); (try have bzz_ := po_let hr3); exact faS)) (by kernel_rfl) (by kernel_rfl) ?_
                    refine TL.run 14 [] [(3, .bool sign), (7, .float .f64 r3), (72, .float .f64 (fsub 4607182418800017408 (fmul 4602678819172646912 r3))), (75, .float .f64 (fmul r3 r3)), (82, .float .f64 (fadd (fmul 13666448263388469915 r3) 4477121864728985349)), (83, .float .f64 r3)] rfl ⟨by kernel_rfl, by kernel_rfl⟩ ?_
                    refine TL.val (sV (binOp .mul 72 (.float .f64 (fadd (fmul 13666448263388469915 r3) 4477121864728985349)) (.float .f64 r3))) (some 84) (.float .f64 (fmul (fadd (fmul 13666448263388469915 r3) 4477121864728985349) r3)) [(3, .bool sign), (7, .float .f64 r3), (72, .float .f64 (fsub 4607182418800017408 (fmul 4602678819172646912 r3))), (75, .float .f64 (fmul r3 r3)), (84, .float .f64 (fmul (fadd (fmul 13666448263388469915 r3) 4477121864728985349) r3))] (fun w hM => run_fmul (by have q0_ := ((or_t h8).imp (fun h => (beq_t h)) (fun h => (beq_t h))); (try have by_ := hm4.2.2); (try have bz_ := bd_let hr2); (try have bzz_ := po_let hr3); exact fmS)) (by kernel_rfl) (by kernel_rfl) ?_
                    refine TL.run 16 [] [(3, .bool sign), (7, .float .f64 r3), (72, .float .f64 (fsub 4607182418800017408 (fmul 4602678819172646912 r3))), (75, .float .f64 (fmul r3 r3)), (84, .float .f64 (fmul (fadd (fmul 13666448263388469915 r3) 4477121864728985349) r3)), (85, .pointer (some ⟨1, 2, none⟩))] rfl ⟨by kernel_rfl, by kernel_rfl⟩ ?_
                    refine TL.val (sV (Instr.loadAt 72 (.pointer (some ⟨1, 2, none⟩)))) (some 86) (.float .f64 13732177093698800582) [(3, .bool sign), (7, .float .f64 r3), (72, .float .f64 (fsub 4607182418800017408 (fmul 4602678819172646912 r3))), (75, .float .f64 (fmul r3 r3)), (84, .float .f64 (fmul (fadd (fmul 13666448263388469915 r3) 4477121864728985349) r3)), (86, .float .f64 13732177093698800582)] (fun w hM => run_load_tab (i := 2) ((hT.1).sat hM) rfl (by kernel_rfl)) (by kernel_rfl) (by kernel_rfl) ?_
                    refine TL.val (sV (binOp .add 72 (.float .f64 (fmul (fadd (fmul 13666448263388469915 r3) 4477121864728985349) r3)) (.float .f64 13732177093698800582))) (some 87) (.float .f64 (fadd (fmul (fadd (fmul 13666448263388469915 r3) 4477121864728985349) r3) 13732177093698800582)) [(3, .bool sign), (7, .float .f64 r3), (72, .float .f64 (fsub 4607182418800017408 (fmul 4602678819172646912 r3))), (75, .float .f64 (fmul r3 r3)), (87, .float .f64 (fadd (fmul (fadd (fmul 13666448263388469915 r3) 4477121864728985349) r3) 13732177093698800582))] (fun w hM => run_fadd (by have q0_ := ((or_t h8).imp (fun h => (beq_t h)) (fun h => (beq_t h))); (try have by_ := hm4.2.2); (try have bz_ := bd_let hr2); (try have bzz_ := po_let hr3); exact faS)) (by kernel_rfl) (by kernel_rfl) ?_
                    refine TL.run 19 [] [(3, .bool sign), (7, .float .f64 r3), (72, .float .f64 (fsub 4607182418800017408 (fmul 4602678819172646912 r3))), (75, .float .f64 (fmul r3 r3)), (87, .float .f64 (fadd (fmul (fadd (fmul 13666448263388469915 r3) 4477121864728985349) r3) 13732177093698800582)), (88, .float .f64 r3)] rfl ⟨by kernel_rfl, by kernel_rfl⟩ ?_
                    refine TL.val (sV (binOp .mul 72 (.float .f64 (fadd (fmul (fadd (fmul 13666448263388469915 r3) 4477121864728985349) r3) 13732177093698800582)) (.float .f64 r3))) (some 89) (.float .f64 (fmul (fadd (fmul (fadd (fmul 13666448263388469915 r3) 4477121864728985349) r3) 13732177093698800582) r3)) [(3, .bool sign), (7, .float .f64 r3), (72, .float .f64 (fsub 4607182418800017408 (fmul 4602678819172646912 r3))), (75, .float .f64 (fmul r3 r3)), (89, .float .f64 (fmul (fadd (fmul (fadd (fmul 13666448263388469915 r3) 4477121864728985349) r3) 13732177093698800582) r3))] (fun w hM => run_fmul (by have q0_ := ((or_t h8).imp (fun h => (beq_t h)) (fun h => (beq_t h))); (try have by_ := hm4.2.2); (try have bz_ := bd_let hr2); (try have bzz_ := po_let hr3); exact fmS)) (by kernel_rfl) (by kernel_rfl) ?_
                    refine TL.run 21 [] [(3, .bool sign), (7, .float .f64 r3), (72, .float .f64 (fsub 4607182418800017408 (fmul 4602678819172646912 r3))), (75, .float .f64 (fmul r3 r3)), (89, .float .f64 (fmul (fadd (fmul (fadd (fmul 13666448263388469915 r3) 4477121864728985349) r3) 13732177093698800582) r3)), (90, .pointer (some ⟨1, 3, none⟩))] rfl ⟨by kernel_rfl, by kernel_rfl⟩ ?_
                    refine TL.val (sV (Instr.loadAt 72 (.pointer (some ⟨1, 3, none⟩)))) (some 91) (.float .f64 4537941361668146421) [(3, .bool sign), (7, .float .f64 r3), (72, .float .f64 (fsub 4607182418800017408 (fmul 4602678819172646912 r3))), (75, .float .f64 (fmul r3 r3)), (89, .float .f64 (fmul (fadd (fmul (fadd (fmul 13666448263388469915 r3) 4477121864728985349) r3) 13732177093698800582) r3)), (91, .float .f64 4537941361668146421)] (fun w hM => run_load_tab (i := 3) ((hT.1).sat hM) rfl (by kernel_rfl)) (by kernel_rfl) (by kernel_rfl) ?_
                    refine TL.val (sV (binOp .add 72 (.float .f64 (fmul (fadd (fmul (fadd (fmul 13666448263388469915 r3) 4477121864728985349) r3) 13732177093698800582) r3)) (.float .f64 4537941361668146421))) (some 92) (.float .f64 (fadd (fmul (fadd (fmul (fadd (fmul 13666448263388469915 r3) 4477121864728985349) r3) 13732177093698800582) r3) 4537941361668146421)) [(3, .bool sign), (7, .float .f64 r3), (72, .float .f64 (fsub 4607182418800017408 (fmul 4602678819172646912 r3))), (75, .float .f64 (fmul r3 r3)), (92, .float .f64 (fadd (fmul (fadd (fmul (fadd (fmul 13666448263388469915 r3) 4477121864728985349) r3) 13732177093698800582) r3) 4537941361668146421))] (fun w hM => run_fadd (by have q0_ := ((or_t h8).imp (fun h => (beq_t h)) (fun h => (beq_t h))); (try have by_ := hm4.2.2); (try have bz_ := bd_let hr2); (try have bzz_ := po_let hr3); exact faS)) (by kernel_rfl) (by kernel_rfl) ?_
                    refine TL.run 24 [] [(3, .bool sign), (7, .float .f64 r3), (72, .float .f64 (fsub 4607182418800017408 (fmul 4602678819172646912 r3))), (75, .float .f64 (fmul r3 r3)), (92, .float .f64 (fadd (fmul (fadd (fmul (fadd (fmul 13666448263388469915 r3) 4477121864728985349) r3) 13732177093698800582) r3) 4537941361668146421)), (93, .float .f64 r3)] rfl ⟨by kernel_rfl, by kernel_rfl⟩ ?_
                    refine TL.val (sV (binOp .mul 72 (.float .f64 (fadd (fmul (fadd (fmul (fadd (fmul 13666448263388469915 r3) 4477121864728985349) r3) 13732177093698800582) r3) 4537941361668146421)) (.float .f64 r3))) (some 94) (.float .f64 (fmul (fadd (fmul (fadd (fmul (fadd (fmul 13666448263388469915 r3) 4477121864728985349) r3) 13732177093698800582) r3) 4537941361668146421) r3)) [(3, .bool sign), (7, .float .f64 r3), (72, .float .f64 (fsub 4607182418800017408 (fmul 4602678819172646912 r3))), (75, .float .f64 (fmul r3 r3)), (94, .float .f64 (fmul (fadd (fmul (fadd (fmul (fadd (fmul 13666448263388469915 r3) 4477121864728985349) r3) 13732177093698800582) r3) 4537941361668146421) r3))] (fun w hM => run_fmul (by have q0_ := ((or_t h8).imp (fun h => (beq_t h)) (fun h => (beq_t h))); (try have by_ := hm4.2.2); (try have bz_ := bd_let hr2); (try have bzz_ := po_let hr3); exact fmS)) (by kernel_rfl) (by kernel_rfl) ?_
                    refine TL.run 26 [] [(3, .bool sign), (7, .float .f64 r3), (72, .float .f64 (fsub 4607182418800017408 (fmul 4602678819172646912 r3))), (75, .float .f64 (fmul r3 r3)), (94, .float .f64 (fmul (fadd (fmul (fadd (fmul (fadd (fmul 13666448263388469915 r3) 4477121864728985349) r3) 13732177093698800582) r3) 4537941361668146421) r3)), (95, .pointer (some ⟨1, 4, none⟩))] rfl ⟨by kernel_rfl, by kernel_rfl⟩ ?_
                    refine TL.val (sV (Instr.loadAt 72 (.pointer (some ⟨1, 4, none⟩)))) (some 96) (.float .f64 13787419979223748497) [(3, .bool sign), (7, .float .f64 r3), (72, .float .f64 (fsub 4607182418800017408 (fmul 4602678819172646912 r3))), (75, .float .f64 (fmul r3 r3)), (94, .float .f64 (fmul (fadd (fmul (fadd (fmul (fadd (fmul 13666448263388469915 r3) 4477121864728985349) r3) 13732177093698800582) r3) 4537941361668146421) r3)), (96, .float .f64 13787419979223748497)] (fun w hM => run_load_tab (i := 4) ((hT.1).sat hM) rfl (by kernel_rfl)) (by kernel_rfl) (by kernel_rfl) ?_
                    refine TL.val (sV (binOp .add 72 (.float .f64 (fmul (fadd (fmul (fadd (fmul (fadd (fmul 13666448263388469915 r3) 4477121864728985349) r3) 13732177093698800582) r3) 4537941361668146421) r3)) (.float .f64 13787419979223748497))) (some 97) (.float .f64 (fadd (fmul (fadd (fmul (fadd (fmul (fadd (fmul 13666448263388469915 r3) 4477121864728985349) r3) 13732177093698800582) r3) 4537941361668146421) r3) 13787419979223748497)) [(3, .bool sign), (7, .float .f64 r3), (72, .float .f64 (fsub 4607182418800017408 (fmul 4602678819172646912 r3))), (75, .float .f64 (fmul r3 r3)), (97, .float .f64 (fadd (fmul (fadd (fmul (fadd (fmul (fadd (fmul 13666448263388469915 r3) 4477121864728985349) r3) 13732177093698800582) r3) 4537941361668146421) r3) 13787419979223748497))] (fun w hM => run_fadd (by have q0_ := ((or_t h8).imp (fun h => (beq_t h)) (fun h => (beq_t h))); (try have by_ := hm4.2.2); (try have bz_ := bd_let hr2); (try have bzz_ := po_let hr3); exact faS)) (by kernel_rfl) (by kernel_rfl) ?_
                    refine TL.run 29 [] [(3, .bool sign), (72, .float .f64 (fsub 4607182418800017408 (fmul 4602678819172646912 r3))), (75, .float .f64 (fmul r3 r3)), (97, .float .f64 (fadd (fmul (fadd (fmul (fadd (fmul (fadd (fmul 13666448263388469915 r3) 4477121864728985349) r3) 13732177093698800582) r3) 4537941361668146421) r3) 13787419979223748497)), (98, .float .f64 r3)] rfl ⟨by kernel_rfl, by kernel_rfl⟩ ?_
                    refine TL.val (sV (binOp .mul 72 (.float .f64 (fadd (fmul (fadd (fmul (fadd (fmul (fadd (fmul 13666448263388469915 r3) 4477121864728985349) r3) 13732177093698800582) r3) 4537941361668146421) r3) 13787419979223748497)) (.float .f64 r3))) (some 99) (.float .f64 (fmul (fadd (fmul (fadd (fmul (fadd (fmul (fadd (fmul 13666448263388469915 r3) 4477121864728985349) r3) 13732177093698800582) r3) 4537941361668146421) r3) 13787419979223748497) r3)) [(3, .bool sign), (72, .float .f64 (fsub 4607182418800017408 (fmul 4602678819172646912 r3))), (75, .float .f64 (fmul r3 r3)), (99, .float .f64 (fmul (fadd (fmul (fadd (fmul (fadd (fmul (fadd (fmul 13666448263388469915 r3) 4477121864728985349) r3) 13732177093698800582) r3) 4537941361668146421) r3) 13787419979223748497) r3))] (fun w hM => run_fmul (by have q0_ := ((or_t h8).imp (fun h => (beq_t h)) (fun h => (beq_t h))); (try have by_ := hm4.2.2); (try have bz_ := bd_let hr2); (try have bzz_ := po_let hr3); exact fmS)) (by kernel_rfl) (by kernel_rfl) ?_
                    refine TL.run 31 [] [(3, .bool sign), (72, .float .f64 (fsub 4607182418800017408 (fmul 4602678819172646912 r3))), (75, .float .f64 (fmul r3 r3)), (99, .float .f64 (fmul (fadd (fmul (fadd (fmul (fadd (fmul (fadd (fmul 13666448263388469915 r3) 4477121864728985349) r3) 13732177093698800582) r3) 4537941361668146421) r3) 13787419979223748497) r3)), (100, .pointer (some ⟨1, 5, none⟩))] rfl ⟨by kernel_rfl, by kernel_rfl⟩ ?_
                    refine TL.val (sV (Instr.loadAt 72 (.pointer (some ⟨1, 5, none⟩)))) (some 101) (.float .f64 4586165620538955083) [(3, .bool sign), (72, .float .f64 (fsub 4607182418800017408 (fmul 4602678819172646912 r3))), (75, .float .f64 (fmul r3 r3)), (99, .float .f64 (fmul (fadd (fmul (fadd (fmul (fadd (fmul (fadd (fmul 13666448263388469915 r3) 4477121864728985349) r3) 13732177093698800582) r3) 4537941361668146421) r3) 13787419979223748497) r3)), (101, .float .f64 4586165620538955083)] (fun w hM => run_load_tab (i := 5) ((hT.1).sat hM) rfl (by kernel_rfl)) (by kernel_rfl) (by kernel_rfl) ?_
                    refine TL.val (sV (binOp .add 72 (.float .f64 (fmul (fadd (fmul (fadd (fmul (fadd (fmul (fadd (fmul 13666448263388469915 r3) 4477121864728985349) r3) 13732177093698800582) r3) 4537941361668146421) r3) 13787419979223748497) r3)) (.float .f64 4586165620538955083))) (some 102) (.float .f64 (fadd (fmul (fadd (fmul (fadd (fmul (fadd (fmul (fadd (fmul 13666448263388469915 r3) 4477121864728985349) r3) 13732177093698800582) r3) 4537941361668146421) r3) 13787419979223748497) r3) 4586165620538955083)) [(3, .bool sign), (72, .float .f64 (fsub 4607182418800017408 (fmul 4602678819172646912 r3))), (75, .float .f64 (fmul r3 r3)), (102, .float .f64 (fadd (fmul (fadd (fmul (fadd (fmul (fadd (fmul (fadd (fmul 13666448263388469915 r3) 4477121864728985349) r3) 13732177093698800582) r3) 4537941361668146421) r3) 13787419979223748497) r3) 4586165620538955083))] (fun w hM => run_fadd (by have q0_ := ((or_t h8).imp (fun h => (beq_t h)) (fun h => (beq_t h))); (try have by_ := hm4.2.2); (try have bz_ := bd_let hr2); (try have bzz_ := po_let hr3); exact faS)) (by kernel_rfl) (by kernel_rfl) ?_
                    refine TL.val (sV (binOp .mul 72 (.float .f64 (fmul r3 r3)) (.float .f64 (fadd (fmul (fadd (fmul (fadd (fmul (fadd (fmul (fadd (fmul 13666448263388469915 r3) 4477121864728985349) r3) 13732177093698800582) r3) 4537941361668146421) r3) 13787419979223748497) r3) 4586165620538955083)))) (some 103) (.float .f64 (fmul (fmul r3 r3) (fadd (fmul (fadd (fmul (fadd (fmul (fadd (fmul (fadd (fmul 13666448263388469915 r3) 4477121864728985349) r3) 13732177093698800582) r3) 4537941361668146421) r3) 13787419979223748497) r3) 4586165620538955083))) [(3, .bool sign), (72, .float .f64 (fsub 4607182418800017408 (fmul 4602678819172646912 r3))), (103, .float .f64 (fmul (fmul r3 r3) (fadd (fmul (fadd (fmul (fadd (fmul (fadd (fmul (fadd (fmul 13666448263388469915 r3) 4477121864728985349) r3) 13732177093698800582) r3) 4537941361668146421) r3) 13787419979223748497) r3) 4586165620538955083)))] (fun w hM => run_fmul (by have q0_ := ((or_t h8).imp (fun h => (beq_t h)) (fun h => (beq_t h))); (try have by_ := hm4.2.2); (try have bz_ := bd_let hr2); (try have bzz_ := po_let hr3); exact fmS)) (by kernel_rfl) (by kernel_rfl) ?_
                    refine TL.val (sV (binOp .add 72 (.float .f64 (fsub 4607182418800017408 (fmul 4602678819172646912 r3))) (.float .f64 (fmul (fmul r3 r3) (fadd (fmul (fadd (fmul (fadd (fmul (fadd (fmul (fadd (fmul 13666448263388469915 r3) 4477121864728985349) r3) 13732177093698800582) r3) 4537941361668146421) r3) 13787419979223748497) r3) 4586165620538955083))))) (some 104) (.float .f64 (fadd (fsub 4607182418800017408 (fmul 4602678819172646912 r3)) (fmul (fmul r3 r3) (fadd (fmul (fadd (fmul (fadd (fmul (fadd (fmul (fadd (fmul 13666448263388469915 r3) 4477121864728985349) r3) 13732177093698800582) r3) 4537941361668146421) r3) 13787419979223748497) r3) 4586165620538955083)))) [(3, .bool sign), (104, .float .f64 (fadd (fsub 4607182418800017408 (fmul 4602678819172646912 r3)) (fmul (fmul r3 r3) (fadd (fmul (fadd (fmul (fadd (fmul (fadd (fmul (fadd (fmul 13666448263388469915 r3) 4477121864728985349) r3) 13732177093698800582) r3) 4537941361668146421) r3) 13787419979223748497) r3) 4586165620538955083))))] (fun w hM => run_fadd (by have q0_ := ((or_t h8).imp (fun h => (beq_t h)) (fun h => (beq_t h))); (try have by_ := hm4.2.2); (try have bz_ := bd_let hr2); (try have bzz_ := po_let hr3); exact faS)) (by kernel_rfl) (by kernel_rfl) ?_
                    refine TL.run 36 [] [(3, .bool sign), (5, .float .f64 (fadd (fsub 4607182418800017408 (fmul 4602678819172646912 r3)) (fmul (fmul r3 r3) (fadd (fmul (fadd (fmul (fadd (fmul (fadd (fmul (fadd (fmul 13666448263388469915 r3) 4477121864728985349) r3) 13732177093698800582) r3) 4537941361668146421) r3) 13787419979223748497) r3) 4586165620538955083))))] rfl ⟨by kernel_rfl, by kernel_rfl⟩ ?_
                    refine TL.done rfl ?_
                    exact TE.cut (fadd (fsub 4607182418800017408 (fmul 4602678819172646912 r3)) (fmul (fmul r3 r3) (fadd (fmul (fadd (fmul (fadd (fmul (fadd (fmul (fadd (fmul 13666448263388469915 r3) 4477121864728985349) r3) 13732177093698800582) r3) 4537941361668146421) r3) 13787419979223748497) r3) 4586165620538955083))) (by have q0_ := ((or_t h8).imp (fun h => (beq_t h)) (fun h => (beq_t h))); (try have by_ := hm4.2.2); (try have bz_ := bd_let hr2); (try have bzz_ := po_let hr3); subst hr1 hr2 hr3; (try dsimp only); first | exact q_T hm5.2 hm4.2.1 (by first | assumption | rfl) (by first | assumption | rfl) (by assumption) | exact q_F hm5.2 hm4.2.1 (by first | assumption | rfl) (by first | assumption | rfl) (by assumption)) (by kernel_rfl) (.slnil)
                  · refine TC.region ?_
                    refine TL.run 3 [] [(3, .bool sign), (7, .float .f64 r3), (105, .float .f64 r2), (106, .float .f64 r2), (107, .float .f64 r3)] rfl ⟨by kernel_rfl, by kernel_rfl⟩ ?_
                    refine TL.val (sV (binOp .mul 72 (.float .f64 r2) (.float .f64 r3))) (some 108) (.float .f64 (fmul r2 r3)) [(3, .bool sign), (7, .float .f64 r3), (105, .float .f64 r2), (108, .float .f64 (fmul r2 r3))] (fun w hM => run_fmul (by have q0_ := (beq_f (or_f1 h8)); have q1_ := (beq_f (or_f2 h8)); (try have by_ := hm4.2.2); (try have bz_ := bd_let hr2); (try have bzz_ := po_let hr3); exact fmS)) (by kernel_rfl) (by kernel_rfl) ?_
                    refine TL.run 5 [] [(3, .bool sign), (7, .float .f64 r3), (105, .float .f64 r2), (108, .float .f64 (fmul r2 r3)), (109, .pointer (some ⟨2, 0, none⟩))] rfl ⟨by kernel_rfl, by kernel_rfl⟩ ?_
                    refine TL.val (sV (Instr.loadAt 72 (.pointer (some ⟨2, 0, none⟩)))) (some 110) (.float .f64 4460209587652500685) [(3, .bool sign), (7, .float .f64 r3), (105, .float .f64 r2), (108, .float .f64 (fmul r2 r3)), (110, .float .f64 4460209587652500685)] (fun w hM => run_load_tab (i := 0) ((hT.2).sat hM) rfl (by kernel_rfl)) (by kernel_rfl) (by kernel_rfl) ?_
                    refine TL.run 7 [] [(3, .bool sign), (7, .float .f64 r3), (105, .float .f64 r2), (108, .float .f64 (fmul r2 r3)), (110, .float .f64 4460209587652500685), (111, .float .f64 r3)] rfl ⟨by kernel_rfl, by kernel_rfl⟩ ?_
                    refine TL.val (sV (binOp .mul 72 (.float .f64 4460209587652500685) (.float .f64 r3))) (some 112) (.float .f64 (fmul 4460209587652500685 r3)) [(3, .bool sign), (7, .float .f64 r3), (105, .float .f64 r2), (108, .float .f64 (fmul r2 r3)), (112, .float .f64 (fmul 4460209587652500685 r3))] (fun w hM => run_fmul (by have q0_ := (beq_f (or_f1 h8)); have q1_ := (beq_f (or_f2 h8)); (try have by_ := hm4.2.2); (try have bz_ := bd_let hr2); (try have bzz_ := po_let hr3); exact fmS)) (by kernel_rfl) (by kernel_rfl) ?_
                    refine TL.run 9 [] [(3, .bool sign), (7, .float .f64 r3), (105, .float .f64 r2), (108, .float .f64 (fmul r2 r3)), (112, .float .f64 (fmul 4460209587652500685 r3)), (113, .pointer (some ⟨2, 1, none⟩))] rfl ⟨by kernel_rfl, by kernel_rfl⟩ ?_
                    refine TL.val (sV (Instr.loadAt 72 (.pointer (some ⟨2, 1, none⟩)))) (some 114) (.float .f64 13716528389658582877) [(3, .bool sign), (7, .float .f64 r3), (105, .float .f64 r2), (108, .float .f64 (fmul r2 r3)), (112, .float .f64 (fmul 4460209587652500685 r3)), (114, .float .f64 13716528389658582877)] (fun w hM => run_load_tab (i := 1) ((hT.2).sat hM) rfl (by kernel_rfl)) (by kernel_rfl) (by kernel_rfl) ?_
                    refine TL.val (sV (binOp .add 72 (.float .f64 (fmul 4460209587652500685 r3)) (.float .f64 13716528389658582877))) (some 115) (.float .f64 (fadd (fmul 4460209587652500685 r3) 13716528389658582877)) [(3, .bool sign), (7, .float .f64 r3), (105, .float .f64 r2), (108, .float .f64 (fmul r2 r3)), (115, .float .f64 (fadd (fmul 4460209587652500685 r3) 13716528389658582877))] (fun w hM => run_fadd (by have q0_ := (beq_f (or_f1 h8)); have q1_ := (beq_f (or_f2 h8)); (try have by_ := hm4.2.2); (try have bz_ := bd_let hr2); (try have bzz_ := po_let hr3); exact faS)) (by kernel_rfl) (by kernel_rfl) ?_
                    refine TL.run 12 [] [(3, .bool sign), (7, .float .f64 r3), (105, .float .f64 r2), (108, .float .f64 (fmul r2 r3)), (115, .float .f64 (fadd (fmul 4460209587652500685 r3) 13716528389658582877)), (116, .float .f64 r3)] rfl ⟨by kernel_rfl, by kernel_rfl⟩ ?_
                    refine TL.val (sV (binOp .mul 72 (.float .f64 (fadd (fmul 4460209587652500685 r3) 13716528389658582877)) (.float .f64 r3))) (some 117) (.float .f64 (fmul (fadd (fmul 4460209587652500685 r3) 13716528389658582877) r3)) [(3, .bool sign), (7, .float .f64 r3), (105, .float .f64 r2), (108, .float .f64 (fmul r2 r3)), (117, .float .f64 (fmul (fadd (fmul 4460209587652500685 r3) 13716528389658582877) r3))] (fun w hM => run_fmul (by have q0_ := (beq_f (or_f1 h8)); have q1_ := (beq_f (or_f2 h8)); (try have by_ := hm4.2.2); (try have bz_ := bd_let hr2); (try have bzz_ := po_let hr3); exact fmS)) (by kernel_rfl) (by kernel_rfl) ?_
                    refine TL.run 14 [] [(3, .bool sign), (7, .float .f64 r3), (105, .float .f64 r2), (108, .float .f64 (fmul r2 r3)), (117, .float .f64 (fmul (fadd (fmul 4460209587652500685 r3) 13716528389658582877) r3)), (118, .pointer (some ⟨2, 2, none⟩))] rfl ⟨by kernel_rfl, by kernel_rfl⟩ ?_
                    refine TL.val (sV (Instr.loadAt 72 (.pointer (some ⟨2, 2, none⟩)))) (some 119) (.float .f64 4523617212962785441) [(3, .bool sign), (7, .float .f64 r3), (105, .float .f64 r2), (108, .float .f64 (fmul r2 r3)), (117, .float .f64 (fmul (fadd (fmul 4460209587652500685 r3) 13716528389658582877) r3)), (119, .float .f64 4523617212962785441)] (fun w hM => run_load_tab (i := 2) ((hT.2).sat hM) rfl (by kernel_rfl)) (by kernel_rfl) (by kernel_rfl) ?_
                    refine TL.val (sV (binOp .add 72 (.float .f64 (fmul (fadd (fmul 4460209587652500685 r3) 13716528389658582877) r3)) (.float .f64 4523617212962785441))) (some 120) (.float .f64 (fadd (fmul (fadd (fmul 4460209587652500685 r3) 13716528389658582877) r3) 4523617212962785441)) [(3, .bool sign), (7, .float .f64 r3), (105, .float .f64 r2), (108, .float .f64 (fmul r2 r3)), (120, .float .f64 (fadd (fmul (fadd (fmul 4460209587652500685 r3) 13716528389658582877) r3) 4523617212962785441))] (fun w hM => run_fadd (by have q0_ := (beq_f (or_f1 h8)); have q1_ := (beq_f (or_f2 h8)); (try have by_ := hm4.2.2); (try have bz_ := bd_let hr2); (try have bzz_ := po_let hr3); exact faS)) (by kernel_rfl) (by kernel_rfl) ?_
                    refine TL.run 17 [] [(3, .bool sign), (7, .float .f64 r3), (105, .float .f64 r2), (108, .float .f64 (fmul r2 r3)), (120, .float .f64 (fadd (fmul (fadd (fmul 4460209587652500685 r3) 13716528389658582877) r3) 4523617212962785441)), (121, .float .f64 r3)] rfl ⟨by kernel_rfl, by kernel_rfl⟩ ?_
                    refine TL.val (sV (binOp .mul 72 (.float .f64 (fadd (fmul (fadd (fmul 4460209587652500685 r3) 13716528389658582877) r3) 4523617212962785441)) (.float .f64 r3))) (some 122) (.float .f64 (fmul (fadd (fmul (fadd (fmul 4460209587652500685 r3) 13716528389658582877) r3) 4523617212962785441) r3)) [(3, .bool sign), (7, .float .f64 r3), (105, .float .f64 r2), (108, .float .f64 (fmul r2 r3)), (122, .float .f64 (fmul (fadd (fmul (fadd (fmul 4460209587652500685 r3) 13716528389658582877) r3) 4523617212962785441) r3))] (fun w hM => run_fmul (by have q0_ := (beq_f (or_f1 h8)); have q1_ := (beq_f (or_f2 h8)); (try have by_ := hm4.2.2); (try have bz_ := bd_let hr2); (try have bzz_ := po_let hr3); exact fmS)) (by kernel_rfl) (by kernel_rfl) ?_
                    refine TL.run 19 [] [(3, .bool sign), (7, .float .f64 r3), (105, .float .f64 r2), (108, .float .f64 (fmul r2 r3)), (122, .float .f64 (fmul (fadd (fmul (fadd (fmul 4460209587652500685 r3) 13716528389658582877) r3) 4523617212962785441) r3)), (123, .pointer (some ⟨2, 3, none⟩))] rfl ⟨by kernel_rfl, by kernel_rfl⟩ ?_
                    refine TL.val (sV (Instr.loadAt 72 (.pointer (some ⟨2, 3, none⟩)))) (some 124) (.float .f64 13774824197404483331) [(3, .bool sign), (7, .float .f64 r3), (105, .float .f64 r2), (108, .float .f64 (fmul r2 r3)), (122, .float .f64 (fmul (fadd (fmul (fadd (fmul 4460209587652500685 r3) 13716528389658582877) r3) 4523617212962785441) r3)), (124, .float .f64 13774824197404483331)] (fun w hM => run_load_tab (i := 3) ((hT.2).sat hM) rfl (by kernel_rfl)) (by kernel_rfl) (by kernel_rfl) ?_
                    refine TL.val (sV (binOp .add 72 (.float .f64 (fmul (fadd (fmul (fadd (fmul 4460209587652500685 r3) 13716528389658582877) r3) 4523617212962785441) r3)) (.float .f64 13774824197404483331))) (some 125) (.float .f64 (fadd (fmul (fadd (fmul (fadd (fmul 4460209587652500685 r3) 13716528389658582877) r3) 4523617212962785441) r3) 13774824197404483331)) [(3, .bool sign), (7, .float .f64 r3), (105, .float .f64 r2), (108, .float .f64 (fmul r2 r3)), (125, .float .f64 (fadd (fmul (fadd (fmul (fadd (fmul 4460209587652500685 r3) 13716528389658582877) r3) 4523617212962785441) r3) 13774824197404483331))] (fun w hM => run_fadd (by have q0_ := (beq_f (or_f1 h8)); have q1_ := (beq_f (or_f2 h8)); (try have by_ := hm4.2.2); (try have bz_ := bd_let hr2); (try have bzz_ := po_let hr3); exact faS)) (by kernel_rfl) (by kernel_rfl) ?_
                    refine TL.run 22 [] [(3, .bool sign), (7, .float .f64 r3), (105, .float .f64 r2), (108, .float .f64 (fmul r2 r3)), (125, .float .f64 (fadd (fmul (fadd (fmul (fadd (fmul 4460209587652500685 r3) 13716528389658582877) r3) 4523617212962785441) r3) 13774824197404483331)), (126, .float .f64 r3)] rfl ⟨by kernel_rfl, by kernel_rfl⟩ ?_
                    refine TL.val (sV (binOp .mul 72 (.float .f64 (fadd (fmul (fadd (fmul (fadd (fmul 4460209587652500685 r3) 13716528389658582877) r3) 4523617212962785441) r3) 13774824197404483331)) (.float .f64 r3))) (some 127) (.float .f64 (fmul (fadd (fmul (fadd (fmul (fadd (fmul 4460209587652500685 r3) 13716528389658582877) r3) 4523617212962785441) r3) 13774824197404483331) r3)) [(3, .bool sign), (7, .float .f64 r3), (105, .float .f64 r2), (108, .float .f64 (fmul r2 r3)), (127, .float .f64 (fmul (fadd (fmul (fadd (fmul (fadd (fmul 4460209587652500685 r3) 13716528389658582877) r3) 4523617212962785441) r3) 13774824197404483331) r3))] (fun w hM => run_fmul (by have q0_ := (beq_f (or_f1 h8)); have q1_ := (beq_f (or_f2 h8)); (try have by_ := hm4.2.2); (try have bz_ := bd_let hr2); (try have bzz_ := po_let hr3); exact fmS)) (by kernel_rfl) (by kernel_rfl) ?_
                    refine TL.run 24 [] [(3, .bool sign), (7, .float .f64 r3), (105, .float .f64 r2), (108, .float .f64 (fmul r2 r3)), (127, .float .f64 (fmul (fadd (fmul (fadd (fmul (fadd (fmul 4460209587652500685 r3) 13716528389658582877) r3) 4523617212962785441) r3) 13774824197404483331) r3)), (128, .pointer (some ⟨2, 4, none⟩))] rfl ⟨by kernel_rfl, by kernel_rfl⟩ ?_
                    refine TL.val (sV (Instr.loadAt 72 (.pointer (some ⟨2, 4, none⟩)))) (some 129) (.float .f64 4575957461383575504) [(3, .bool sign), (7, .float .f64 r3), (105, .float .f64 r2), (108, .float .f64 (fmul r2 r3)), (127, .float .f64 (fmul (fadd (fmul (fadd (fmul (fadd (fmul 4460209587652500685 r3) 13716528389658582877) r3) 4523617212962785441) r3) 13774824197404483331) r3)), (129, .float .f64 4575957461383575504)] (fun w hM => run_load_tab (i := 4) ((hT.2).sat hM) rfl (by kernel_rfl)) (by kernel_rfl) (by kernel_rfl) ?_
                    refine TL.val (sV (binOp .add 72 (.float .f64 (fmul (fadd (fmul (fadd (fmul (fadd (fmul 4460209587652500685 r3) 13716528389658582877) r3) 4523617212962785441) r3) 13774824197404483331) r3)) (.float .f64 4575957461383575504))) (some 130) (.float .f64 (fadd (fmul (fadd (fmul (fadd (fmul (fadd (fmul 4460209587652500685 r3) 13716528389658582877) r3) 4523617212962785441) r3) 13774824197404483331) r3) 4575957461383575504)) [(3, .bool sign), (7, .float .f64 r3), (105, .float .f64 r2), (108, .float .f64 (fmul r2 r3)), (130, .float .f64 (fadd (fmul (fadd (fmul (fadd (fmul (fadd (fmul 4460209587652500685 r3) 13716528389658582877) r3) 4523617212962785441) r3) 13774824197404483331) r3) 4575957461383575504))] (fun w hM => run_fadd (by have q0_ := (beq_f (or_f1 h8)); have q1_ := (beq_f (or_f2 h8)); (try have by_ := hm4.2.2); (try have bz_ := bd_let hr2); (try have bzz_ := po_let hr3); exact faS)) (by kernel_rfl) (by kernel_rfl) ?_
                    refine TL.run 27 [] [(3, .bool sign), (105, .float .f64 r2), (108, .float .f64 (fmul r2 r3)), (130, .float .f64 (fadd (fmul (fadd (fmul (fadd (fmul (fadd (fmul 4460209587652500685 r3) 13716528389658582877) r3) 4523617212962785441) r3) 13774824197404483331) r3) 4575957461383575504)), (131, .float .f64 r3)] rfl ⟨by kernel_rfl, by kernel_rfl⟩ ?_
                    refine TL.val (sV (binOp .mul 72 (.float .f64 (fadd (fmul (fadd (fmul (fadd (fmul (fadd (fmul 4460209587652500685 r3) 13716528389658582877) r3) 4523617212962785441) r3) 13774824197404483331) r3) 4575957461383575504)) (.float .f64 r3))) (some 132) (.float .f64 (fmul (fadd (fmul (fadd (fmul (fadd (fmul (fadd (fmul 4460209587652500685 r3) 13716528389658582877) r3) 4523617212962785441) r3) 13774824197404483331) r3) 4575957461383575504) r3)) [(3, .bool sign), (105, .float .f64 r2), (108, .float .f64 (fmul r2 r3)), (132, .float .f64 (fmul (fadd (fmul (fadd (fmul (fadd (fmul (fadd (fmul 4460209587652500685 r3) 13716528389658582877) r3) 4523617212962785441) r3) 13774824197404483331) r3) 4575957461383575504) r3))] (fun w hM => run_fmul (by have q0_ := (beq_f (or_f1 h8)); have q1_ := (beq_f (or_f2 h8)); (try have by_ := hm4.2.2); (try have bz_ := bd_let hr2); (try have bzz_ := po_let hr3); exact fmS)) (by kernel_rfl) (by kernel_rfl) ?_
                    refine TL.run 29 [] [(3, .bool sign), (105, .float .f64 r2), (108, .float .f64 (fmul r2 r3)), (132, .float .f64 (fmul (fadd (fmul (fadd (fmul (fadd (fmul (fadd (fmul 4460209587652500685 r3) 13716528389658582877) r3) 4523617212962785441) r3) 13774824197404483331) r3) 4575957461383575504) r3)), (133, .pointer (some ⟨2, 5, none⟩))] rfl ⟨by kernel_rfl, by kernel_rfl⟩ ?_
                    refine TL.val (sV (Instr.loadAt 72 (.pointer (some ⟨2, 5, none⟩)))) (some 134) (.float .f64 13818544856648471880) [(3, .bool sign), (105, .float .f64 r2), (108, .float .f64 (fmul r2 r3)), (132, .float .f64 (fmul (fadd (fmul (fadd (fmul (fadd (fmul (fadd (fmul 4460209587652500685 r3) 13716528389658582877) r3) 4523617212962785441) r3) 13774824197404483331) r3) 4575957461383575504) r3)), (134, .float .f64 13818544856648471880)] (fun w hM => run_load_tab (i := 5) ((hT.2).sat hM) rfl (by kernel_rfl)) (by kernel_rfl) (by kernel_rfl) ?_
                    refine TL.val (sV (binOp .add 72 (.float .f64 (fmul (fadd (fmul (fadd (fmul (fadd (fmul (fadd (fmul 4460209587652500685 r3) 13716528389658582877) r3) 4523617212962785441) r3) 13774824197404483331) r3) 4575957461383575504) r3)) (.float .f64 13818544856648471880))) (some 135) (.float .f64 (fadd (fmul (fadd (fmul (fadd (fmul (fadd (fmul (fadd (fmul 4460209587652500685 r3) 13716528389658582877) r3) 4523617212962785441) r3) 13774824197404483331) r3) 4575957461383575504) r3) 13818544856648471880)) [(3, .bool sign), (105, .float .f64 r2), (108, .float .f64 (fmul r2 r3)), (135, .float .f64 (fadd (fmul (fadd (fmul (fadd (fmul (fadd (fmul (fadd (fmul 4460209587652500685 r3) 13716528389658582877) r3) 4523617212962785441) r3) 13774824197404483331) r3) 4575957461383575504) r3) 13818544856648471880))] (fun w hM => run_fadd (by have q0_ := (beq_f (or_f1 h8)); have q1_ := (beq_f (or_f2 h8)); (try have by_ := hm4.2.2); (try have bz_ := bd_let hr2); (try have bzz_ := po_let hr3); exact faS)) (by kernel_rfl) (by kernel_rfl) ?_
                    refine TL.val (sV (binOp .mul 72 (.float .f64 (fmul r2 r3)) (.float .f64 (fadd (fmul (fadd (fmul (fadd (fmul (fadd (fmul (fadd (fmul 4460209587652500685 r3) 13716528389658582877) r3) 4523617212962785441) r3) 13774824197404483331) r3) 4575957461383575504) r3) 13818544856648471880)))) (some 136) (.float .f64 (fmul (fmul r2 r3) (fadd (fmul (fadd (fmul (fadd (fmul (fadd (fmul (fadd (fmul 4460209587652500685 r3) 13716528389658582877) r3) 4523617212962785441) r3) 13774824197404483331) r3) 4575957461383575504) r3) 13818544856648471880))) [(3, .bool sign), (105, .float .f64 r2), (136, .float .f64 (fmul (fmul r2 r3) (fadd (fmul (fadd (fmul (fadd (fmul (fadd (fmul (fadd (fmul 4460209587652500685 r3) 13716528389658582877) r3) 4523617212962785441) r3) 13774824197404483331) r3) 4575957461383575504) r3) 13818544856648471880)))] (fun w hM => run_fmul (by have q0_ := (beq_f (or_f1 h8)); have q1_ := (beq_f (or_f2 h8)); (try have by_ := hm4.2.2); (try have bz_ := bd_let hr2); (try have bzz_ := po_let hr3); exact fmS)) (by kernel_rfl) (by kernel_rfl) ?_
                    refine TL.val (sV (binOp .add 72 (.float .f64 r2) (.float .f64 (fmul (fmul r2 r3) (fadd (fmul (fadd (fmul (fadd (fmul (fadd (fmul (fadd (fmul 4460209587652500685 r3) 13716528389658582877) r3) 4523617212962785441) r3) 13774824197404483331) r3) 4575957461383575504) r3) 13818544856648471880))))) (some 137) (.float .f64 (fadd r2 (fmul (fmul r2 r3) (fadd (fmul (fadd (fmul (fadd (fmul (fadd (fmul (fadd (fmul 4460209587652500685 r3) 13716528389658582877) r3) 4523617212962785441) r3) 13774824197404483331) r3) 4575957461383575504) r3) 13818544856648471880)))) [(3, .bool sign), (137, .float .f64 (fadd r2 (fmul (fmul r2 r3) (fadd (fmul (fadd (fmul (fadd (fmul (fadd (fmul (fadd (fmul 4460209587652500685 r3) 13716528389658582877) r3) 4523617212962785441) r3) 13774824197404483331) r3) 4575957461383575504) r3) 13818544856648471880))))] (fun w hM => run_fadd (by have q0_ := (beq_f (or_f1 h8)); have q1_ := (beq_f (or_f2 h8)); (try have by_ := hm4.2.2); (try have bz_ := bd_let hr2); (try have bzz_ := po_let hr3); exact faS)) (by kernel_rfl) (by kernel_rfl) ?_
                    refine TL.run 34 [] [(3, .bool sign), (5, .float .f64 (fadd r2 (fmul (fmul r2 r3) (fadd (fmul (fadd (fmul (fadd (fmul (fadd (fmul (fadd (fmul 4460209587652500685 r3) 13716528389658582877) r3) 4523617212962785441) r3) 13774824197404483331) r3) 4575957461383575504) r3) 13818544856648471880))))] rfl ⟨by kernel_rfl, by kernel_rfl⟩ ?_
                    refine TL.done rfl ?_
                    exact TE.cut (fadd r2 (fmul (fmul r2 r3) (fadd (fmul (fadd (fmul (fadd (fmul (fadd (fmul (fadd (fmul 4460209587652500685 r3) 13716528389658582877) r3) 4523617212962785441) r3) 13774824197404483331) r3) 4575957461383575504) r3) 13818544856648471880))) (by have q0_ := (beq_f (or_f1 h8)); have q1_ := (beq_f (or_f2 h8)); (try have by_ := hm4.2.2); (try have bz_ := bd_let hr2); (try have bzz_ := po_let hr3); subst hr1 hr2 hr3; (try dsimp only); first | exact q_T hm5.2 hm4.2.1 (by first | assumption | rfl) (by first | assumption | rfl) (by assumption) | exact q_F hm5.2 hm4.2.1 (by first | assumption | rfl) (by first | assumption | rfl) (by assumption)) (by kernel_rfl) (.slnil)
                · rintro y_2 hm6
                  refine TE.next ?_
                  refine TC.seq ?_
                  refine TC.seq ?_
                  refine TC.region ?_
                  refine TL.run 1 [] [(5, .float .f64 y_2), (138, .bool sign)] rfl ⟨by kernel_rfl, by kernel_rfl⟩ ?_
                  refine TL.next rfl ?_
                  refine TC.cond sign rfl (by kernel_rfl) (fun h9 => ?_) (fun h9 => ?_)
                  · refine TC.region ?_
                    refine TL.run 3 [] [(5, .float .f64 (fneg y_2))] rfl ⟨by kernel_rfl, by kernel_rfl⟩ ?_
                    refine TL.next rfl ?_
                    refine TC.seq ?_
                    refine TC.region ?_
                    refine TL.run 2 [] [(2, .float .f64 (fneg y_2))] rfl ⟨by kernel_rfl, by kernel_rfl⟩ ?_
                    refine TL.next rfl ?_
                    refine TC.ret ?_
                    exact TE.retM (.inl rfl) (fneg y_2) [] (.float .f64 (fneg y_2)) ⟨by kernel_rfl, by kernel_rfl⟩ rfl (fun _ hM => (hM.sub (.slnil)).fact (by (try have by_ := hm4.2.2); (try have bz_ := bd_let hr2); (try have bzz_ := po_let hr3); subst hr1 hr2 hr3; (try dsimp only); first | exact sr_x h1 | exact sr_T h1 hm5.1 (by assumption) hm6 | exact sr_F h1 hm5.1 (by assumption) hm6))
                  · refine TC.skip ?_
                    refine TE.next ?_
                    refine TC.seq ?_
                    refine TC.region ?_
                    refine TL.run 2 [] [(2, .float .f64 y_2)] rfl ⟨by kernel_rfl, by kernel_rfl⟩ ?_
                    refine TL.next rfl ?_
                    refine TC.ret ?_
                    exact TE.retM (.inl rfl) y_2 [] (.float .f64 y_2) ⟨by kernel_rfl, by kernel_rfl⟩ rfl (fun _ hM => (hM.sub (.slnil)).fact (by (try have by_ := hm4.2.2); (try have bz_ := bd_let hr2); (try have bzz_ := po_let hr3); subst hr1 hr2 hr3; (try dsimp only); first | exact sr_x h1 | exact sr_T h1 hm5.1 (by assumption) hm6 | exact sr_F h1 hm5.1 (by assumption) hm6))

def math_Sin (x : Nat) : Nat :=
  let r1 := (sinF x)
  r1

set_option maxRecDepth 100000 in
theorem math_Sin_w (x : Nat) (w : World) (hx : Po 14 x) (hl : x < 18446744073709551616) (hT : Tabs w) : Calls Tryd.prog 77 #[.float .f64 x] w (Ret w (.float .f64 (math_Sin x))) := by
  refine calls_intro (vs := [.float .f64 x]) (w := w) Tryd.func77 rfl Tryd.ntmps77 rfl ?_
  refine TC.weak [(0, .float .f64 x)] (by kernel_rfl) ?_
  refine TC.seq ?_
  refine TC.region ?_
  refine TL.run 1 [] [(0, .float .f64 x)] rfl ⟨by kernel_rfl, by kernel_rfl⟩ ?_
  refine TL.next rfl ?_
  refine TC.seq ?_
  refine TC.condF rfl (by kernel_rfl) ?_
  refine TC.skip ?_
  refine TE.next ?_
  refine TC.seq ?_
  refine TC.region ?_
  refine TL.run 1 [] [(5, .float .f64 x)] rfl ⟨by kernel_rfl, by kernel_rfl⟩ ?_
  refine TL.callM (Γ := Nat) (fun g => .float .f64 g) (fun g => [.inr (Fact (g = sinF x))]) [] [] (some 6) (fun g => [(6, .float .f64 g)]) (fun w hM => math_sin_w x w hM.pass hx hl (hT.sat hM)) (by kernel_rfl) (fun g => by kernel_rfl) ?_
  rintro r1
  refine TL.conv [.inr (Fact (r1 = sinF x))] (fun _ hM => hM) ?_
  refine TL.know (fun w hM => hM.fact_at 0 rfl) (fun hp_math_sin => ?_)
  refine TL.forget [] (.cons _ (List.Sublist.refl _)) ?_
  have hr1 : (sinF x) = r1 := (hp_math_sin).symm
  refine TL.run 3 [] [(2, .float .f64 r1)] rfl ⟨by kernel_rfl, by kernel_rfl⟩ ?_
  refine TL.next rfl ?_
  refine TC.ret ?_
  have e : math_Sin x = r1 := by subst hr1; unfold math_Sin; exact rfl
  exact TE.ret [] (.float .f64 r1) ⟨by kernel_rfl, by kernel_rfl⟩ (by rw [e]; first | done | kernel_rfl)

def math_Round (x : Nat) : Nat :=
  cond (decide ((kand .u64 ((x : Int).fdiv (2 ^ 52)) 2047) < 1023)) (
    cond ((kand .u64 ((x : Int).fdiv (2 ^ 52)) 2047) == 1022) (
      (kor .u64 (kand .u64 (x : Int) 9223372036854775808) 4607182418800017408).toNat) (
      (kand .u64 (x : Int) 9223372036854775808).toNat)) (
    cond (decide ((kand .u64 ((x : Int).fdiv (2 ^ 52)) 2047) < 1075)) (
      let r1 := kandnot .u64 (wu64 ((x : Int) + ((2251799813685248 : Int).fdiv (2 ^ (min (wu64 ((kand .u64 ((x : Int).fdiv (2 ^ 52)) 2047) - 1023)).toNat 64))))) ((4503599627370495 : Int).fdiv (2 ^ (min (wu64 ((kand .u64 ((x : Int).fdiv (2 ^ 52)) 2047) - 1023)).toNat 64)))
      r1.toNat) (
      (x : Int).toNat))

set_option maxRecDepth 100000 in
theorem math_Round_w (x : Nat) (w : World) : Calls Tryd.prog 76 #[.float .f64 x] w (Ret w (.float .f64 (math_Round x))) := by
  refine calls_intro (vs := [.float .f64 x]) (w := w) Tryd.func76 rfl Tryd.ntmps76 rfl ?_
  refine TC.weak [(0, .float .f64 x)] (by kernel_rfl) ?_
  refine TC.seq ?_
  refine TC.region ?_
  refine TL.run 1 [] [(0, .float .f64 x)] rfl ⟨by kernel_rfl, by kernel_rfl⟩ ?_
  refine TL.next rfl ?_
  refine TC.seq ?_
  refine TC.region ?_
  refine TL.run 1 [] [(5, .float .f64 x)] rfl ⟨by kernel_rfl, by kernel_rfl⟩ ?_
  refine TL.val (callFunc 83 #[.float .f64 x]) (some 6) (.int .u64 (x : Int)) [(6, .int .u64 (x : Int))] (fun w hM => run_f64bits Tryd.func83 (by kernel_rfl) (by kernel_rfl) (by kernel_rfl) (by kernel_rfl)) (by kernel_rfl) (by kernel_rfl) ?_
  refine TL.run 3 [] [(3, .int .u64 (x : Int))] rfl ⟨by kernel_rfl, by kernel_rfl⟩ ?_
  refine TL.next rfl ?_
  refine TC.seq ?_
  refine TC.region ?_
  refine TL.run 4 [] [(3, .int .u64 (x : Int)), (4, .int .u64 (kand .u64 ((x : Int).fdiv (2 ^ 52)) 2047))] rfl ⟨by kernel_rfl, by kernel_rfl⟩ ?_
  refine TL.next rfl ?_
  refine TC.seq ?_
  refine TC.seq ?_
  refine TC.region ?_
  refine TL.run 2 [] [(3, .int .u64 (x : Int)), (4, .int .u64 (kand .u64 ((x : Int).fdiv (2 ^ 52)) 2047)), (11, .bool (decide ((kand .u64 ((x : Int).fdiv (2 ^ 52)) 2047) < 1023)))] rfl ⟨by kernel_rfl, by kernel_rfl⟩ ?_
  refine TL.next rfl ?_
  refine TC.cond (decide ((kand .u64 ((x : Int).fdiv (2 ^ 52)) 2047) < 1023)) rfl (by kernel_rfl) (fun h1 => ?_) (fun h1 => ?_)
  · refine TC.seq ?_
    refine TC.region ?_
    refine TL.run 3 [] [(3, .int .u64 (kand .u64 (x : Int) 9223372036854775808)), (4, .int .u64 (kand .u64 ((x : Int).fdiv (2 ^ 52)) 2047))] rfl ⟨by kernel_rfl, by kernel_rfl⟩ ?_
    refine TL.next rfl ?_
    refine TC.seq ?_
    refine TC.region ?_
    refine TL.run 2 [] [(3, .int .u64 (kand .u64 (x : Int) 9223372036854775808)), (15, .bool ((kand .u64 ((x : Int).fdiv (2 ^ 52)) 2047) == 1022))] rfl ⟨by kernel_rfl, by kernel_rfl⟩ ?_
    refine TL.next rfl ?_
    refine TC.cond ((kand .u64 ((x : Int).fdiv (2 ^ 52)) 2047) == 1022) rfl (by kernel_rfl) (fun h2 => ?_) (fun h2 => ?_)
    · refine TC.region ?_
      refine TL.run 3 [] [(3, .int .u64 (kor .u64 (kand .u64 (x : Int) 9223372036854775808) 4607182418800017408))] rfl ⟨by kernel_rfl, by kernel_rfl⟩ ?_
      refine TL.next rfl ?_
      refine TC.seq ?_
      refine TC.region ?_
      refine TL.run 1 [] [(30, .int .u64 (kor .u64 (kand .u64 (x : Int) 9223372036854775808) 4607182418800017408))] rfl ⟨by kernel_rfl, by kernel_rfl⟩ ?_
      refine TL.val (callFunc 82 #[.int .u64 (kor .u64 (kand .u64 (x : Int) 9223372036854775808) 4607182418800017408)]) (some 31) (.float .f64 ((kor .u64 (kand .u64 (x : Int) 9223372036854775808) 4607182418800017408).toNat)) [(31, .float .f64 ((kor .u64 (kand .u64 (x : Int) 9223372036854775808) 4607182418800017408).toNat))] (fun w hM => run_f64frombits Tryd.func82 (by kernel_rfl) (by kernel_rfl) (by kernel_rfl) (by kernel_rfl)) (by kernel_rfl) (by kernel_rfl) ?_
      refine TL.run 3 [] [(2, .float .f64 ((kor .u64 (kand .u64 (x : Int) 9223372036854775808) 4607182418800017408).toNat))] rfl ⟨by kernel_rfl, by kernel_rfl⟩ ?_
      refine TL.next rfl ?_
      refine TC.ret ?_
      have e : math_Round x = ((kor .u64 (kand .u64 (x : Int) 9223372036854775808) 4607182418800017408).toNat) := by unfold math_Round; exact cond_t h1 (cond_t h2 (rfl))
      exact TE.ret [] (.float .f64 ((kor .u64 (kand .u64 (x : Int) 9223372036854775808) 4607182418800017408).toNat)) ⟨by kernel_rfl, by kernel_rfl⟩ (by rw [e]; first | done | kernel_rfl)
    · refine TC.skip ?_
      refine TE.next ?_
      refine TC.seq ?_
      refine TC.region ?_
      refine TL.run 1 [] [(30, .int .u64 (kand .u64 (x : Int) 9223372036854775808))] rfl ⟨by kernel_rfl, by kernel_rfl⟩ ?_
      refine TL.val (callFunc 82 #[.int .u64 (kand .u64 (x : Int) 9223372036854775808)]) (some 31) (.float .f64 ((kand .u64 (x : Int) 9223372036854775808).toNat)) [(31, .float .f64 ((kand .u64 (x : Int) 9223372036854775808).toNat))] (fun w hM => run_f64frombits Tryd.func82 (by kernel_rfl) (by kernel_rfl) (by kernel_rfl) (by kernel_rfl)) (by kernel_rfl) (by kernel_rfl) ?_
      refine TL.run 3 [] [(2, .float .f64 ((kand .u64 (x : Int) 9223372036854775808).toNat))] rfl ⟨by kernel_rfl, by kernel_rfl⟩ ?_
      refine TL.next rfl ?_
      refine TC.ret ?_
      have e : math_Round x = ((kand .u64 (x : Int) 9223372036854775808).toNat) := by unfold math_Round; exact cond_t h1 (cond_f h2 (rfl))
      exact TE.ret [] (.float .f64 ((kand .u64 (x : Int) 9223372036854775808).toNat)) ⟨by kernel_rfl, by kernel_rfl⟩ (by rw [e]; first | done | kernel_rfl)
  · refine TC.seq ?_
    refine TC.region ?_
    refine TL.run 2 [] [(3, .int .u64 (x : Int)), (4, .int .u64 (kand .u64 ((x : Int).fdiv (2 ^ 52)) 2047)), (19, .bool (decide ((kand .u64 ((x : Int).fdiv (2 ^ 52)) 2047) < 1075)))] rfl ⟨by kernel_rfl, by kernel_rfl⟩ ?_
    refine TL.next rfl ?_
    refine TC.cond (decide ((kand .u64 ((x : Int).fdiv (2 ^ 52)) 2047) < 1075)) rfl (by kernel_rfl) (fun h3 => ?_) (fun h3 => ?_)
    · refine TC.seq ?_
      refine TC.region ?_
      refine TL.run 3 [] [(3, .int .u64 (x : Int)), (4, .int .u64 (wu64 ((kand .u64 ((x : Int).fdiv (2 ^ 52)) 2047) - 1023)))] rfl ⟨by kernel_rfl, by kernel_rfl⟩ ?_
      refine TL.next rfl ?_
      refine TC.seq ?_
      refine TC.region ?_
      refine TL.run 2 [] [(4, .int .u64 (wu64 ((kand .u64 ((x : Int).fdiv (2 ^ 52)) 2047) - 1023))), (22, .int .u64 (x : Int)), (23, .int .u64 (wu64 ((kand .u64 ((x : Int).fdiv (2 ^ 52)) 2047) - 1023)))] rfl ⟨by kernel_rfl, by kernel_rfl⟩ ?_
      refine TL.val (sV (binOp .shr 93 (.int .u64 2251799813685248) (.int .u64 (wu64 ((kand .u64 ((x : Int).fdiv (2 ^ 52)) 2047) - 1023))))) (some 24) (.int .u64 ((2251799813685248 : Int).fdiv (2 ^ (min (wu64 ((kand .u64 ((x : Int).fdiv (2 ^ 52)) 2047) - 1023)).toNat 64)))) [(4, .int .u64 (wu64 ((kand .u64 ((x : Int).fdiv (2 ^ 52)) 2047) - 1023))), (22, .int .u64 (x : Int)), (24, .int .u64 ((2251799813685248 : Int).fdiv (2 ^ (min (wu64 ((kand .u64 ((x : Int).fdiv (2 ^ 52)) 2047) - 1023)).toNat 64))))] (fun w hM => run_shr (wu64_nn _)) (by kernel_rfl) (by kernel_rfl) ?_
      refine TL.run 5 [] [(3, .int .u64 (wu64 ((x : Int) + ((2251799813685248 : Int).fdiv (2 ^ (min (wu64 ((kand .u64 ((x : Int).fdiv (2 ^ 52)) 2047) - 1023)).toNat 64)))))), (4, .int .u64 (wu64 ((kand .u64 ((x : Int).fdiv (2 ^ 52)) 2047) - 1023)))] rfl ⟨by kernel_rfl, by kernel_rfl⟩ ?_
      refine TL.next rfl ?_
      refine TC.region ?_
      refine TL.run 2 [] [(26, .int .u64 (wu64 ((x : Int) + ((2251799813685248 : Int).fdiv (2 ^ (min (wu64 ((kand .u64 ((x : Int).fdiv (2 ^ 52)) 2047) - 1023)).toNat 64)))))), (27, .int .u64 (wu64 ((kand .u64 ((x : Int).fdiv (2 ^ 52)) 2047) - 1023)))] rfl ⟨by kernel_rfl, by kernel_rfl⟩ ?_
      refine TL.val (sV (binOp .shr 93 (.int .u64 4503599627370495) (.int .u64 (wu64 ((kand .u64 ((x : Int).fdiv (2 ^ 52)) 2047) - 1023))))) (some 28) (.int .u64 ((4503599627370495 : Int).fdiv (2 ^ (min (wu64 ((kand .u64 ((x : Int).fdiv (2 ^ 52)) 2047) - 1023)).toNat 64)))) [(26, .int .u64 (wu64 ((x : Int) + ((2251799813685248 : Int).fdiv (2 ^ (min (wu64 ((kand .u64 ((x : Int).fdiv (2 ^ 52)) 2047) - 1023)).toNat 64)))))), (28, .int .u64 ((4503599627370495 : Int).fdiv (2 ^ (min (wu64 ((kand .u64 ((x : Int).fdiv (2 ^ 52)) 2047) - 1023)).toNat 64))))] (fun w hM => run_shr (wu64_nn _)) (by kernel_rfl) (by kernel_rfl) ?_
      refine TL.run 5 [] [(3, .int .u64 (kandnot .u64 (wu64 ((x : Int) + ((2251799813685248 : Int).fdiv (2 ^ (min (wu64 ((kand .u64 ((x : Int).fdiv (2 ^ 52)) 2047) - 1023)).toNat 64))))) ((4503599627370495 : Int).fdiv (2 ^ (min (wu64 ((kand .u64 ((x : Int).fdiv (2 ^ 52)) 2047) - 1023)).toNat 64)))))] rfl ⟨by kernel_rfl, by kernel_rfl⟩ ?_
      generalize hr1 : kandnot .u64 (wu64 ((x : Int) + ((2251799813685248 : Int).fdiv (2 ^ (min (wu64 ((kand .u64 ((x : Int).fdiv (2 ^ 52)) 2047) - 1023)).toNat 64))))) ((4503599627370495 : Int).fdiv (2 ^ (min (wu64 ((kand .u64 ((x : Int).fdiv (2 ^ 52)) 2047) - 1023)).toNat 64))) = r1
      refine TL.next rfl ?_
      refine TC.seq ?_
      refine TC.region ?_
      refine TL.run 1 [] [(30, .int .u64 r1)] rfl ⟨by kernel_rfl, by kernel_rfl⟩ ?_
      refine TL.val (callFunc 82 #[.int .u64 r1]) (some 31) (.float .f64 r1.toNat) [(31, .float .f64 r1.toNat)] (fun w hM => run_f64frombits Tryd.func82 (by kernel_rfl) (by kernel_rfl) (by kernel_rfl) (by kernel_rfl)) (by kernel_rfl) (by kernel_rfl) ?_
      refine TL.run 3 [] [(2, .float .f64 r1.toNat)] rfl ⟨by kernel_rfl, by kernel_rfl⟩ ?_
      refine TL.next rfl ?_
      refine TC.ret ?_
      have e : math_Round x = r1.toNat := by subst hr1; unfold math_Round; exact cond_f h1 (cond_t h3 (rfl))
      exact TE.ret [] (.float .f64 r1.toNat) ⟨by kernel_rfl, by kernel_rfl⟩ (by rw [e]; first | done | kernel_rfl)
    · refine TC.skip ?_
      refine TE.next ?_
      refine TC.seq ?_
      refine TC.region ?_
      refine TL.run 1 [] [(30, .int .u64 (x : Int))] rfl ⟨by kernel_rfl, by kernel_rfl⟩ ?_
      refine TL.val (callFunc 82 #[.int .u64 (x : Int)]) (some 31) (.float .f64 ((x : Int).toNat)) [(31, .float .f64 ((x : Int).toNat))] (fun w hM => run_f64frombits Tryd.func82 (by kernel_rfl) (by kernel_rfl) (by kernel_rfl) (by kernel_rfl)) (by kernel_rfl) (by kernel_rfl) ?_
      refine TL.run 3 [] [(2, .float .f64 ((x : Int).toNat))] rfl ⟨by kernel_rfl, by kernel_rfl⟩ ?_
      refine TL.next rfl ?_
      refine TC.ret ?_
      have e : math_Round x = ((x : Int).toNat) := by unfold math_Round; exact cond_f h1 (cond_f h3 (rfl))
      exact TE.ret [] (.float .f64 ((x : Int).toNat)) ⟨by kernel_rfl, by kernel_rfl⟩ (by rw [e]; first | done | kernel_rfl)

def angle_Norm (h_ : Int) : Int :=
  (w64 ((h_.tmod 4096) + 4096)).tmod 4096

set_option maxRecDepth 100000 in
theorem angle_Norm_w (h_ : Int) (w : World) : Calls Tryd.prog 35 #[.int .i64 h_] w (Ret w (.int .i64 (angle_Norm h_))) := by
  refine calls_intro (vs := [.int .i64 h_]) (w := w) Tryd.func35 rfl Tryd.ntmps35 rfl ?_
  refine TC.weak [(0, .int .i64 h_)] (by kernel_rfl) ?_
  refine TC.seq ?_
  refine TC.region ?_
  refine TL.run 1 [] [(0, .int .i64 h_)] rfl ⟨by kernel_rfl, by kernel_rfl⟩ ?_
  refine TL.next rfl ?_
  refine TC.seq ?_
  refine TC.region ?_
  refine TL.run 5 [] [(2, .int .i64 ((w64 ((h_.tmod 4096) + 4096)).tmod 4096))] rfl ⟨by kernel_rfl, by kernel_rfl⟩ ?_
  refine TL.next rfl ?_
  refine TC.ret ?_
  have e : angle_Norm h_ = ((w64 ((h_.tmod 4096) + 4096)).tmod 4096) := by unfold angle_Norm; exact rfl
  exact TE.ret [] (.int .i64 ((w64 ((h_.tmod 4096) + 4096)).tmod 4096)) ⟨by kernel_rfl, by kernel_rfl⟩ (by rw [e]; first | done | kernel_rfl)

end Go.Sky
