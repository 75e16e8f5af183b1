/- Lemmas toward the given statement (part 4 of 16): Ma Cpy PlanB GrowNil. Each theorem states its own conditions; nothing is assumed beyond them. -/
import Derived.Test.YtiknacdnhekekaaRows
import Derived.Test.YtiknacdnhekekaaSw02
import Derived.Test.YtiknacdnhekekaaSw03
import Derived.Lib.AppendZerosOnto
section
namespace Go.Sky
open Go Go.Eng Go.Proofs
def cmp_isNaN_int (x : Int) : Bool :=
  x != x
set_option maxRecDepth 100000 in
theorem cmp_isNaN_int_w (x : Int) (w : World) : Calls Try.prog 50 #[.int .i64 x] w (Ret w (.bool (cmp_isNaN_int x))) := by
  exact calls_intro (vs := [.i x]) (w := w) Try.func50 rfl Try.ntmps50 rfl (TC.sr (TL.r 1 [] [(2, .b false)] {} (TL.nr (TL.r 4 [] [(2, .b (x != x))] {} (TL.next rfl (TC.ret (TE.ret [] (.b (x != x)) {} (by unfold cmp_isNaN_int; refine eS (fun z => (.b z : Value)) ?_; exact rfl))))))))
def cmp_Compare_int (x : Int) (y : Int) : Int :=
  let r1 := cmp_isNaN_int x
  let r2 := cmp_isNaN_int y
  cond r1 (
    cond r2 (
      0) (
      (-1))) (
    cond r2 (
      1) (
      cond (decide (x < y)) (
        (-1)) (
        cond (decide (x > y)) (
          1) (
          0))))
set_option maxRecDepth 100000 in
theorem cmp_Compare_int_w (x : Int) (y : Int) (w : World) : Calls Try.prog 35 #[.int .i64 x, .int .i64 y] w (Ret w (.int .i64 (cmp_Compare_int x y))) := by
  refine calls_intro (vs := [.i x, .i y]) (w := w) Try.func35 rfl Try.ntmps35 rfl (TC.sr (TL.r 1 [] [(4, .i 0)] {} (TL.nr (TL.r 1 [] [(7, .i x)] {} (TL.c 8 (cmp_isNaN_int x) (fun r1 => .b r1) (fun w _ => cmp_isNaN_int_w x w) {} (fun r1 hr1 => TL.r 3 [] [(5, .b r1)] {} (TL.nr (TL.r 1 [] [(9, .i y)] {} (TL.c 10 (cmp_isNaN_int y) (fun r2 => .b r2) (fun w _ => cmp_isNaN_int_w y w) {} (fun r2 hr2 => TL.r 3 [] [(6, .b r2)] {} (TL.ns (TC.sr (TL.r 1 [] [(11, .b r1)] {} (TL.next rfl (TC.cond r1 rfl Kr (fun h1 => ?_) (fun h1 => ?_))))))))))))))))
  · refine TC.seq (TC.sr (TL.r 1 [] [(12, .b r2)] {} (TL.next rfl (TC.cond r2 rfl Kr (fun h2 => ?_) (fun h2 => ?_)))))
    · refine TC.sr (TL.r 1 [] [(4, .i 0)] {} (TL.next rfl (TC.ret (TE.rt (TE.rt ?_)))))
      exact TE.ret [] (.i 0) {} (by unfold cmp_Compare_int; refine eS (fun z => (.i z : Value)) ?_; subst hr1 hr2; exact cond_t h1 (cond_t h2 (rfl)))
    · exact TC.snr (TL.r 1 [] [(4, .i (-1))] {} (TL.next rfl (TC.ret (TE.rt (TE.ret [] (.i (-1)) {} (by unfold cmp_Compare_int; refine eS (fun z => (.i z : Value)) ?_; subst hr1 hr2; exact cond_t h1 (cond_f h2 (rfl))))))))
  · refine TC.sn (TC.seq (TC.sr (TL.r 1 [] [(13, .b r2)] {} (TL.next rfl (TC.cond r2 rfl Kr (fun h3 => ?_) (fun h3 => ?_))))))
    · exact TC.sr (TL.r 1 [] [(4, .i 1)] {} (TL.next rfl (TC.ret (TE.rt (TE.ret [] (.i 1) {} (by unfold cmp_Compare_int; refine eS (fun z => (.i z : Value)) ?_; subst hr1 hr2; exact cond_f h1 (cond_t h3 (rfl))))))))
    · refine TC.sn (TC.seq (TC.sr (TL.r 3 [] [(16, .b (decide (x < y)))] {} (TL.next rfl (TC.cond (decide (x < y)) rfl Kr (fun h4 => ?_) (fun h4 => ?_))))))
      · exact TC.sr (TL.r 1 [] [(4, .i (-1))] {} (TL.next rfl (TC.ret (TE.rt (TE.ret [] (.i (-1)) {} (by unfold cmp_Compare_int; refine eS (fun z => (.i z : Value)) ?_; subst hr1 hr2; exact cond_f h1 (cond_f h3 (cond_t h4 (rfl)))))))))
      · refine TC.sn (TC.seq (TC.sr (TL.r 3 [] [(19, .b (decide (x > y)))] {} (TL.next rfl (TC.cond (decide (x > y)) rfl Kr (fun h5 => ?_) (fun h5 => ?_))))))
        · exact TC.sr (TL.r 1 [] [(4, .i 1)] {} (TL.next rfl (TC.ret (TE.rt (TE.ret [] (.i 1) {} (by unfold cmp_Compare_int; refine eS (fun z => (.i z : Value)) ?_; subst hr1 hr2; exact cond_f h1 (cond_f h3 (cond_f h4 (cond_t h5 (rfl))))))))))
        · exact TC.snr (TL.r 1 [] [(4, .i 0)] {} (TL.next rfl (TC.ret (TE.ret [] (.i 0) {} (by unfold cmp_Compare_int; refine eS (fun z => (.i z : Value)) ?_; subst hr1 hr2; exact cond_f h1 (cond_f h3 (cond_f h4 (cond_f h5 (rfl)))))))))
def plane_Check (p : P) : Int :=
  cond ((((decide (p.X < (-1000000))) || (decide (p.X > 1000000))) || (decide (p.Y < (-1000000)))) || (decide (p.Y > 1000000))) (
    4) (
    0)
set_option maxRecDepth 100000 in
theorem plane_Check_w (p : P) (w : World) : Calls Try.prog 12 #[P.v p] w (Ret w (.int .i64 (plane_Check p))) := by
  refine calls_intro (vs := [P.v p]) (w := w) Try.func12 rfl Try.ntmps12 rfl (TC.sr (TL.nw 1 (fun b1 => .p0 b1) (fun b1 => Bk b1 (P.c p) 33) (fun b1 => {}) (fun b1 => TL.r 2 [] [(2, .i 0)] {} (TL.ns (TC.sr (TL.r 4 [0] [(6, .b (decide (p.X < (-1000000))))] {} (TL.j 6 (decide (p.X < (-1000000))) 8 [] [0] (fun β => [(10, .b (β || (decide (p.X > 1000000))))]) Kr {} {} (TL.r 9 [] [(11, .b ((decide (p.X < (-1000000))) || (decide (p.X > 1000000))))] {} (TL.j 11 ((decide (p.X < (-1000000))) || (decide (p.X > 1000000))) 13 [] [0] (fun β => [(15, .b (β || (decide (p.Y < (-1000000)))))]) Kr {} {} (TL.r 14 [] [(16, .b (((decide (p.X < (-1000000))) || (decide (p.X > 1000000))) || (decide (p.Y < (-1000000)))))] {} (TL.j 16 (((decide (p.X < (-1000000))) || (decide (p.X > 1000000))) || (decide (p.Y < (-1000000)))) 18 [] [0] (fun β => [(20, .b (β || (decide (p.Y > 1000000))))]) Kr {} {} (TL.next rfl (TC.cond ((((decide (p.X < (-1000000))) || (decide (p.X > 1000000))) || (decide (p.Y < (-1000000)))) || (decide (p.Y > 1000000))) rfl Kr (fun h1 => ?_) (fun h1 => ?_))))))))))))))
  · exact TC.sr (TL.r 1 [] [(2, .i 4)] {} (TL.next rfl (TC.ret (TE.rt (TE.ret [] (.i 4) {} (by unfold plane_Check; refine eS (fun z => (.i z : Value)) ?_; exact cond_t h1 (rfl)))))))
  · exact TC.snr (TL.r 1 [] [(2, .i 0)] {} (TL.next rfl (TC.ret (TE.ret [] (.i 0) {} (by unfold plane_Check; refine eS (fun z => (.i z : Value)) ?_; exact cond_f h1 (rfl))))))
def plane_Sub (a : P) (b_ : P) : P :=
  (⟨w64 (a.X - b_.X), w64 (a.Y - b_.Y)⟩ : P)
set_option maxRecDepth 100000 in
theorem plane_Sub_w (a : P) (b_ : P) (w : World) : Calls Try.prog 79 #[P.v a, P.v b_] w (Ret w (P.v (plane_Sub a b_))) := by
  exact calls_intro (vs := [P.v a, P.v b_]) (w := w) Try.func79 rfl Try.ntmps79 rfl (TC.sr (TL.nw 2 (fun b1 => .p0 b1) (fun b1 => Bk b1 (P.c a) 33) (fun b1 => {}) (fun b1 => TL.nw 3 (fun b2 => .p0 b2) (fun b2 => Bk b2 (P.c b_) 33) (fun b2 => {}) (fun b2 => TL.nw 4 (fun b3 => .p0 b3) (fun b3 => Bk b3 (P.c P.zero) 33) (fun b3 => {}) (fun b3 => TL.nr (TL.r 11 [2, 1, 2, 1] [(15, P.v (⟨w64 (a.X - b_.X), w64 (a.Y - b_.Y)⟩ : P))] {} (TL.s 0 (Bk b3 (P.c (⟨w64 (a.X - b_.X), w64 (a.Y - b_.Y)⟩ : P)) 33) (fun _ => {}) (TL.next rfl (TC.ret (TE.ret [0] (P.v (⟨w64 (a.X - b_.X), w64 (a.Y - b_.Y)⟩ : P)) {} (by unfold plane_Sub; refine eS (fun z => (P.v z : Value)) ?_; exact rfl)))))))))))
def plane_Dot (a : P) (b_ : P) : Int :=
  w64 ((w64 (a.X * b_.X)) + (w64 (a.Y * b_.Y)))
set_option maxRecDepth 100000 in
theorem plane_Dot_w (a : P) (b_ : P) (w : World) : Calls Try.prog 80 #[P.v a, P.v b_] w (Ret w (.int .i64 (plane_Dot a b_))) := by
  exact calls_intro (vs := [P.v a, P.v b_]) (w := w) Try.func80 rfl Try.ntmps80 rfl (TC.sr (TL.nw 2 (fun b1 => .p0 b1) (fun b1 => Bk b1 (P.c a) 33) (fun b1 => {}) (fun b1 => TL.nw 3 (fun b2 => .p0 b2) (fun b2 => Bk b2 (P.c b_) 33) (fun b2 => {}) (fun b2 => TL.r 3 [] [(4, .i 0)] {} (TL.nr (TL.r 12 [1, 0, 1, 0] [(4, .i (w64 ((w64 (a.X * b_.X)) + (w64 (a.Y * b_.Y)))))] {} (TL.next rfl (TC.ret (TE.ret [] (.i (w64 ((w64 (a.X * b_.X)) + (w64 (a.Y * b_.Y))))) {} (by unfold plane_Dot; refine eS (fun z => (.i z : Value)) ?_; exact rfl))))))))))
def plane_Square (a : P) (b_ : P) : Int :=
  let r1 := plane_Sub a b_
  let r2 := plane_Dot r1 r1
  r2
set_option maxRecDepth 100000 in
theorem plane_Square_w (a : P) (b_ : P) (w : World) : Calls Try.prog 70 #[P.v a, P.v b_] w (Ret w (.int .i64 (plane_Square a b_))) := by
  exact calls_intro (vs := [P.v a, P.v b_]) (w := w) Try.func70 rfl Try.ntmps70 rfl (TC.sr (TL.nw 2 (fun b1 => .p0 b1) (fun b1 => Bk b1 (P.c a) 33) (fun b1 => {}) (fun b1 => TL.nw 3 (fun b2 => .p0 b2) (fun b2 => Bk b2 (P.c b_) 33) (fun b2 => {}) (fun b2 => TL.r 3 [] [(4, .i 0)] {} (TL.nr (TL.r 2 [1, 0] [(6, P.v a), (7, P.v b_)] {} (TL.c 8 (plane_Sub a b_) (fun r1 => P.v r1) (fun w _ => plane_Sub_w a b_ w) {} (fun r1 hr1 => TL.nw 5 (fun b3 => .p0 b3) (fun b3 => Bk b3 (P.c P.zero) 33) (fun b3 => {}) (fun b3 => TL.s 0 (Bk b3 (P.c r1) 33) (fun _ => {}) (TL.nr (TL.r 2 [0, 0] [(9, P.v r1), (10, P.v r1)] {} (TL.c 11 (plane_Dot r1 r1) (fun r2 => .i r2) (fun w _ => plane_Dot_w r1 r1 w) {} (fun r2 hr2 => TL.r 4 [] [(4, .i r2)] {} (TL.next rfl (TC.ret (TE.ret [] (.i r2) {} (by unfold plane_Square; refine eS (fun z => (.i z : Value)) ?_; subst hr1 hr2; exact rfl)))))))))))))))))
def skywayref1_Square (a : P) (b_ : P) : Int :=
  w64 ((w64 ((w64 (a.X - b_.X)) * (w64 (a.X - b_.X)))) + (w64 ((w64 (a.Y - b_.Y)) * (w64 (a.Y - b_.Y)))))
set_option maxRecDepth 100000 in
theorem skywayref1_Square_w (a : P) (b_ : P) (w : World) : Calls Try.prog 36 #[P.v a, P.v b_] w (Ret w (.int .i64 (skywayref1_Square a b_))) := by
  exact calls_intro (vs := [P.v a, P.v b_]) (w := w) Try.func36 rfl Try.ntmps36 rfl (TC.sr (TL.nw 2 (fun b1 => .p0 b1) (fun b1 => Bk b1 (P.c a) 33) (fun b1 => {}) (fun b1 => TL.nw 3 (fun b2 => .p0 b2) (fun b2 => Bk b2 (P.c b_) 33) (fun b2 => {}) (fun b2 => TL.r 3 [] [(4, .i 0)] {} (TL.nr (TL.r 24 [1, 0, 1, 0, 1, 0, 1, 0] [(4, .i (w64 ((w64 ((w64 (a.X - b_.X)) * (w64 (a.X - b_.X)))) + (w64 ((w64 (a.Y - b_.Y)) * (w64 (a.Y - b_.Y)))))))] {} (TL.next rfl (TC.ret (TE.ret [] (.i (w64 ((w64 ((w64 (a.X - b_.X)) * (w64 (a.X - b_.X)))) + (w64 ((w64 (a.Y - b_.Y)) * (w64 (a.Y - b_.Y))))))) {} (by unfold skywayref1_Square; refine eS (fun z => (.i z : Value)) ?_; exact rfl))))))))))
def chart_Name_L1 : List Int → Nat → ((Unit) ⊕ (Bool))
  | [], _ => .inl ()
  | x :: xs, k => cond ((decide (x ≥ 65)) && (decide (x ≤ 90))) (
      chart_Name_L1 xs (k + 1)) (
      cond (decide ((k : Int) > 0)) (
        cond (decide (x ≥ 48)) (
          cond (!(decide (x ≤ 57))) (
            .inr false) (
            chart_Name_L1 xs (k + 1))) (
          .inr false)) (
        .inr false))
def chart_Name (s : ByteArray) : Bool :=
  cond ((decide ((s.size : Int) < 1)) || (decide ((s.size : Int) > 8))) (
    false) (
    Sum.elim (fun _ =>
      true) (fun r => r) (chart_Name_L1 (lb s) 0))
set_option maxRecDepth 100000 in
theorem chart_Name_w (s : ByteArray) (w : World) : Calls Try.prog 10 #[.string s] w (Ret w (.bool (chart_Name s))) := by
  refine calls_intro (vs := [.string s]) (w := w) Try.func10 rfl Try.ntmps10 rfl (TC.sr (TL.r 1 [] [(2, .b false)] {} (TL.ns (TC.sr (TL.r 4 [] [(8, .b (decide ((s.size : Int) < 1)))] {} (TL.j 8 (decide ((s.size : Int) < 1)) 8 [] [] (fun β => [(12, .b (β || (decide ((s.size : Int) > 8))))]) Kr {} {} (TL.next rfl (TC.cond ((decide ((s.size : Int) < 1)) || (decide ((s.size : Int) > 8))) rfl Kr (fun h1 => ?_) (fun h1 => ?_)))))))))
  · exact TC.sr (TL.r 1 [] [(2, .b false)] {} (TL.next rfl (TC.ret (TE.rt (TE.ret [] (.b false) {} (by unfold chart_Name; refine eS (fun z => (.b z : Value)) ?_; exact cond_t h1 (rfl)))))))
  · have q1_0 := (dec_f (or_f1 h1))
    have q1_1 := (dec_f (or_f2 h1))
    refine TC.sn (TC.seq (TC.sr (TL.r 1 [] [(13, .string s)] {} ?_)))
    have slb_ := lb_length (s)
    refine TL.opM (Γ := AN) (sV (convert 9 65 (.string s))) (some 14) (fun g => .slice g.1 (lb s).length g.2) (fun g => [.inr (Rdo g.1 g.2 1 ((lb s).map ic8))]) (fun g => [(14, .slice g.1 ((lb s).length) g.2)]) (bytes_at (e := 5) s Kr Kr Kr (by first | omega | (simp only [ByteArray.size_extract, size_strOf]; omega) | (simp only [w64_eq]; omega))) Kr (fun g => Kr) ?_
    rintro ⟨A, c⟩
    refine TL.r 4 [] [(15, .i ((lb s).length : Int)), (16, .i 0)] {} (TL.next rfl ?_)
    obtain ⟨R2, hR⟩ : ∃ R, R = chart_Name_L1 (lb s) 0 := ⟨_, rfl⟩
    refine TC.cut (S := Unit) (fun (_ : Unit) => []) (fun (_ : Unit) => []) (fun (_ : Unit) => R2 = .inl ()) ?_ ?_
    · refine TC.block (TC.lw (X := Nat) (fun k => [(14, .slice A ((lb s).length) c), (15, .i ((lb s).length : Int)), (16, .i (k : Int))]) (fun k => [.inr (Rdo A c 1 ((lb s).map ic8))]) (fun k => (lb s).length - k) (fun k => k ≤ (lb s).length ∧ R2 = chart_Name_L1 ((lb s).drop k) k) ?_ 0 ⟨Nat.zero_le _, hR⟩ Kr (sb 1))
      rintro k ⟨hk, hI⟩
      refine TC.sr (TL.r 1 [] [(17, .b (decide ((k : Int) < ((lb s).length : Int))))] {} (TL.ns (TC.cond (decide ((k : Int) < ((lb s).length : Int))) rfl Kr (fun h2 => ?_) (fun h2 => ?_))))
      · have hlt := ltN h2
        obtain ⟨x, hx⟩ := elN hlt
        have hd := drop_at hx
        refine TC.sn (TC.seq (TC.block (TC.sr (TL.r 1 [] [(18, .i (k : Int))] {} (TL.v (sV (Instr.indexAt 65 (.slice A ((lb s).length) c) (.i (k : Int)))) 19 (.pointer (some (Ix A (k * 1)))) (fun w hM => run_index (hM.rdo_at 0 rfl) (by simp) Kr sd sd) {} (TL.v (sV (Instr.loadAt 5 (.pointer (some (Ix A (k * 1)))))) 20 (.int .u8 x) (fun w hM => run_load_one (off := 0) (i := k) (.int .u8 x) (hM.rdo_at 0 rfl) (map_at hx) Kr Kr) {} (TL.r 5 [] [(3, .i (k : Int)), (4, .int .u8 x)] {} (TL.nr (TL.r 3 [] [(23, .b (decide (x ≥ 65)))] {} (TL.j 23 (decide (x ≥ 65)) 6 [] [] (fun β => [(26, .b (β && (decide (x ≤ 90))))]) Kr {} {} (TL.r 7 [] [(27, .b ((decide (x ≥ 65)) && (decide (x ≤ 90))))] {} (TL.split 27 ((decide (x ≥ 65)) && (decide (x ≤ 90))) Kr (fun h3 => ?_) (fun h3 => ?_)))))))))))))
        · have q3_0 := (dec_t (and_t1 h3))
          have q3_1 := (dec_t (and_t2 h3))
          exact TL.r 19 [] [(39, .b false)] {} (TL.next rfl (TC.condF rfl Kr (TC.skip (TE.nb (TE.next (TC.region (TL.r 2 [] [(16, .i (w64 ((k : Int) + 1)))] {} (TL.done rfl (TE.rw 16 (.i (w64 ((k : Int) + 1))) (.i ((k + 1 : Nat) : Int)) Kr (w64_cast k (by omega)) (TE.again (x := k) (k + 1) ⟨by omega, hI.trans (by rw [hd]; exact cond_t h3 (rfl))⟩ (mN hlt) Kr (sb 1)))))))))))
        · have q3_0 := ((and_f h3).imp (fun h => (dec_f h)) (fun h => (dec_f h)))
          refine TL.r 10 [] [(30, .b (decide ((k : Int) > 0)))] {} (TL.split 30 (decide ((k : Int) > 0)) Kr (fun h4 => ?_) (fun h4 => ?_))
          · have q4_0 := (dec_t h4)
            refine TL.r 14 [] [(34, .b (decide (x ≥ 48)))] {} (TL.split 34 (decide (x ≥ 48)) Kr (fun h5 => ?_) (fun h5 => ?_))
            · have q5_0 := (dec_t h5)
              refine TL.r 19 [] [(39, .b (!(decide (x ≤ 57))))] {} (TL.next rfl (TC.cond (!(decide (x ≤ 57))) rfl Kr (fun h6 => ?_) (fun h6 => ?_)))
              · refine TC.sr (TL.r 1 [] [(2, .b false)] {} (TL.next rfl (TC.ret (TE.rb (TE.rt (TE.rt (TE.rb (TE.rt (TE.rt ?_)))))))))
                exact TE.ret [] (.b false) {} (by unfold chart_Name; refine eS (fun z => (.b z : Value)) ?_; exact cond_f h1 (elim_r (hR.symm.trans (hI.trans (by rw [hd]; exact cond_f h3 (cond_t h4 (cond_t h5 (cond_t h6 (rfl))))))) rfl))
              · have q6_0 := (dec_t (not_f h6))
                exact TC.skip (TE.nb (TE.next (TC.region (TL.r 2 [] [(16, .i (w64 ((k : Int) + 1)))] {} (TL.done rfl (TE.rw 16 (.i (w64 ((k : Int) + 1))) (.i ((k + 1 : Nat) : Int)) Kr (w64_cast k (by omega)) (TE.again (x := k) (k + 1) ⟨by omega, hI.trans (by rw [hd]; exact cond_f h3 (cond_t h4 (cond_t h5 (cond_f h6 (rfl)))))⟩ (mN hlt) Kr (sb 1))))))))
            · refine TL.r 19 [] [(39, .b true)] {} (TL.next rfl (TC.condT rfl Kr (TC.sr (TL.r 1 [] [(2, .b false)] {} (TL.next rfl (TC.ret (TE.rb (TE.rt (TE.rt (TE.rb (TE.rt (TE.rt ?_))))))))))))
              exact TE.ret [] (.b false) {} (by unfold chart_Name; refine eS (fun z => (.b z : Value)) ?_; exact cond_f h1 (elim_r (hR.symm.trans (hI.trans (by rw [hd]; exact cond_f h3 (cond_t h4 (cond_f h5 (rfl)))))) rfl))
          · refine TL.r 19 [] [(39, .b true)] {} (TL.next rfl (TC.condT rfl Kr (TC.sr (TL.r 1 [] [(2, .b false)] {} (TL.next rfl (TC.ret (TE.rb (TE.rt (TE.rt (TE.rb (TE.rt (TE.rt ?_))))))))))))
            exact TE.ret [] (.b false) {} (by unfold chart_Name; refine eS (fun z => (.b z : Value)) ?_; exact cond_f h1 (elim_r (hR.symm.trans (hI.trans (by rw [hd]; exact cond_f h3 (cond_f h4 (rfl))))) rfl))
      · have hd := dropN h2
        refine TC.exit (TE.et (TE.et (TE.exit_same ?_)))
        exact TE.cut () (hI.trans (by rw [hd]; exact rfl)) Kr (sb 0)
    · intro _ hJ
      exact TE.nr (TL.r 1 [] [(2, .b true)] {} (TL.next rfl (TC.ret (TE.ret [] (.b true) {} (by unfold chart_Name; refine eS (fun z => (.b z : Value)) ?_; exact cond_f h1 (elim_l (hR.symm.trans hJ) (rfl)))))))
def chart_index_1 (f : Fix) (x : ByteArray) : Bool :=
  seq f.Name x
set_option maxRecDepth 100000 in
theorem chart_index_1_w (f : Fix) (a_x : Addr) (x : ByteArray) (w : World) (h_x : Rd w 1 (some a_x) [sc x]) : Calls Try.prog 26 #[Fix.v f, .pointer (some a_x)] w (Ret w (.bool (chart_index_1 f x))) := by
  exact calls_intro (vs := [Fix.v f, .pointer (some a_x)]) (w := w) Try.func26 rfl Try.ntmps26 rfl (TC.sr (TL.nw 2 (fun b1 => .p0 b1) (fun b1 => Bk b1 (Fix.c f) 35) (fun b1 => {}) (fun b1 => TL.r 2 [] [(3, .b false)] {} (TL.nr (TL.r 2 [0] [(5, .string f.Name)] {} (TL.v (sV (Instr.loadAt 9 (.pointer (some a_x)))) 6 (.string x) (fun w hM => run_load_one (off := 0) (.string x) (h_x.sat hM) (rows_one _) Kr Kr) {} (TL.r 5 [] [(3, .b (seq f.Name x))] {} (TL.next rfl (TC.ret (TE.ret [] (.b (seq f.Name x)) {} (by unfold chart_index_1; refine eS (fun z => (.b z : Value)) ?_; exact rfl)))))))))))
def IndexFunc_fix_L1 (c0 : ByteArray) : List Fix → Nat → ((Unit) ⊕ (Int))
  | [], _ => .inl ()
  | x :: xs, k => let r1 := chart_index_1 x c0
    cond r1 (
      .inr (k : Int)) (
      IndexFunc_fix_L1 c0 xs (k + 1))
def IndexFunc_fix (s : List Fix) (c0 : ByteArray) : Int :=
  Sum.elim (fun _ =>
    (-1)) (fun r => r) (IndexFunc_fix_L1 c0 s 0)
set_option maxRecDepth 100000 in
theorem IndexFunc_fix_w (A_s : Option Addr) (c_s : Nat) (s : List Fix) (a_c0 : Addr) (c0 : ByteArray) (w : World) (h_s : Rd w 3 A_s (s.map Fix.c)) (_hc_s : s.length ≤ c_s) (h_c0 : Rd w 1 (some a_c0) [sc c0]) : Calls Try.prog 25 #[.slice A_s s.length c_s, .func (.func 26) #[] #[.pointer (some a_c0)]] w (Ret w (.int .i64 (IndexFunc_fix s c0))) := by
  have s_s := h_s.short; rw [List.length_map] at s_s
  refine calls_intro (vs := [.slice A_s s.length c_s, .func (.func 26) #[] #[.pointer (some a_c0)]]) (w := w) Try.func25 rfl Try.ntmps25 rfl (TC.sr (TL.r 1 [] [(4, .i 0)] {} (TL.ns (TC.sr (TL.r 3 [] [(7, .i (s.length : Int)), (8, .i 0)] {} (TL.next rfl ?_))))))
  obtain ⟨R1, hR⟩ : ∃ R, R = IndexFunc_fix_L1 c0 s 0 := ⟨_, rfl⟩
  refine TC.cut (S := Unit) (fun (_ : Unit) => []) (fun (_ : Unit) => []) (fun (_ : Unit) => R1 = .inl ()) ?_ ?_
  · refine TC.block (TC.lw (X := Nat) (fun k => [(0, .slice A_s s.length c_s), (1, .func (.func 26) #[] #[.pointer (some a_c0)]), (7, .i (s.length : Int)), (8, .i (k : Int))]) (fun k => []) (fun k => s.length - k) (fun k => k ≤ s.length ∧ R1 = IndexFunc_fix_L1 c0 (s.drop k) k) ?_ 0 ⟨Nat.zero_le _, hR⟩ Kr (sb 0))
    rintro k ⟨hk, hI⟩
    refine TC.sr (TL.r 1 [] [(9, .b (decide ((k : Int) < (s.length : Int))))] {} (TL.ns (TC.cond (decide ((k : Int) < (s.length : Int))) rfl Kr (fun h1 => ?_) (fun h1 => ?_))))
    · have hlt := ltN h1
      obtain ⟨x, hx⟩ := elN hlt
      have hd := drop_at hx
      refine TC.sn (TC.seq (TC.block (TC.sr (TL.r 2 [] [(5, .i (k : Int))] {} (TL.nr (TL.r 3 [] [(11, .func (.func 26) #[] #[.pointer (some a_c0)]), (12, .slice A_s s.length c_s), (13, .i (k : Int))] {} (TL.v (sV (Instr.indexAt 22 (.slice A_s s.length c_s) (.i (k : Int)))) 14 (.pointer (some (Ix A_s (k * 3)))) (fun w hM => run_index (h_s.sat hM) (by simp) Kr sd sd) {} (TL.v (sV (Instr.loadAt 35 (.pointer (some (Ix A_s (k * 3)))))) 15 (Fix.v x) (fun w hM => run_load_agg (n := 3) (off := 0) (i := k) (Fix.v x) (h_s.sat hM) (map_at hx) Kr Kr Kr) {} (TL.c 16 (chart_index_1 x c0) (fun r1 => .b r1) (fun w hM => chart_index_1_w x a_c0 c0 w (h_c0.sat hM)) {} (fun r1 hr1 => TL.next rfl (TC.cond r1 rfl Kr (fun h2 => ?_) (fun h2 => ?_))))))))))))
      · refine TC.sr (TL.r 2 [] [(4, .i (k : Int))] {} (TL.next rfl (TC.ret (TE.rb (TE.rt (TE.rt (TE.rb (TE.rt (TE.rt ?_)))))))))
        exact TE.ret [] (.i (k : Int)) {} (by unfold IndexFunc_fix; refine eS (fun z => (.i z : Value)) ?_; subst hr1; exact elim_r (hR.symm.trans (hI.trans (by rw [hd]; exact cond_t h2 (rfl)))) rfl)
      · exact TC.skip (TE.nb (TE.next (TC.region (TL.r 2 [] [(8, .i (w64 ((k : Int) + 1)))] {} (TL.done rfl (TE.rw 8 (.i (w64 ((k : Int) + 1))) (.i ((k + 1 : Nat) : Int)) Kr (w64_cast k (by omega)) (TE.again (x := k) (k + 1) ⟨by omega, hI.trans (by subst hr1; rw [hd]; exact cond_f h2 (rfl))⟩ (mN hlt) Kr (sb 0))))))))
    · have hd := dropN h1
      refine TC.exit (TE.et (TE.et (TE.exit_same ?_)))
      exact TE.cut () (hI.trans (by rw [hd]; exact rfl)) Kr (sb 0)
  · intro _ hJ
    exact TE.nr (TL.r 1 [] [(4, .i (-1))] {} (TL.next rfl (TC.ret (TE.ret [] (.i (-1)) {} (by unfold IndexFunc_fix; refine eS (fun z => (.i z : Value)) ?_; exact elim_l (hR.symm.trans hJ) (rfl))))))
def chart_index (c : Chart) (name : ByteArray) : Int :=
  let r1 := IndexFunc_fix c.Fixes name
  r1
set_option maxRecDepth 100000 in
theorem chart_index_w (c : Chart) (A_c_Fixes : Option Addr) (c_c_Fixes : Nat) (A_c_Airways : Option Addr) (c_c_Airways : Nat) (o_c_Airways : List (AirwayR)) (name : ByteArray) (w : World) (h_c_Fixes : Rd w 3 A_c_Fixes (c.Fixes.map Fix.c)) (hc_c_Fixes : c.Fixes.length ≤ c_c_Fixes) (h_c_Airways : Rd w 2 A_c_Airways (o_c_Airways.map AirwayR.c)) (_hc_c_Airways : c.Airways.length ≤ c_c_Airways) (_hd_c_Airways : ∀ s ∈ (o_c_Airways.map AirwayR.Fixes), s.rd w 1 sc) (_he_c_Airways : c.Airways = o_c_Airways.map AirwayR.p) : Calls Try.prog 11 #[.agg #[.slice A_c_Fixes c.Fixes.length c_c_Fixes, .slice A_c_Airways c.Airways.length c_c_Airways], .string name] w (Ret w (.int .i64 (chart_index c name))) := by
  have s_c_Fixes := h_c_Fixes.short; rw [List.length_map] at s_c_Fixes
  have s_c_Airways := h_c_Airways.short; rw [← dl_len _he_c_Airways] at s_c_Airways
  exact calls_intro (vs := [.agg #[.slice A_c_Fixes c.Fixes.length c_c_Fixes, .slice A_c_Airways c.Airways.length c_c_Airways], .string name]) (w := w) Try.func11 rfl Try.ntmps11 rfl (TC.sr (TL.nw 2 (fun b1 => .p0 b1) (fun b1 => Bk b1 #[.slice A_c_Fixes c.Fixes.length c_c_Fixes, .slice A_c_Airways c.Airways.length c_c_Airways] 25) (fun b1 => {}) (fun b1 => TL.nw 3 (fun b2 => .p0 b2) (fun b2 => Bk b2 #[.string name] 9) (fun b2 => {}) (fun b2 => TL.r 3 [] [(4, .i 0)] {} (TL.nr (TL.r 3 [1] [(6, .slice A_c_Fixes c.Fixes.length c_c_Fixes), (7, .func (.func 26) #[] #[.p0 b2])] {} (TL.c 8 (IndexFunc_fix c.Fixes name) (fun r1 => .i r1) (fun w hM => IndexFunc_fix_w A_c_Fixes c_c_Fixes c.Fixes ⟨b2, 0, none⟩ name w (h_c_Fixes.sat hM) hc_c_Fixes (Rd.lit hM 0 _ rfl Kr Kr Kr)) {} (fun r1 hr1 => TL.r 5 [] [(4, .i r1)] {} (TL.next rfl (TC.ret (TE.ret [] (.i r1) {} (by unfold chart_index; refine eS (fun z => (.i z : Value)) ?_; subst hr1; exact rfl))))))))))))
def slices_Index_string_string_L1 (v : ByteArray) : List ByteArray → Nat → ((Unit) ⊕ (Int))
  | [], _ => .inl ()
  | x :: xs, k => cond (seq v x) (
      .inr (k : Int)) (
      slices_Index_string_string_L1 v xs (k + 1))
def slices_Index_string_string (s : List ByteArray) (v : ByteArray) : Int :=
  Sum.elim (fun _ =>
    (-1)) (fun r => r) (slices_Index_string_string_L1 v s 0)
set_option maxRecDepth 100000 in
theorem slices_Index_string_string_w (A_s : Option Addr) (c_s : Nat) (s : List ByteArray) (v : ByteArray) (w : World) (h_s : Rd w 1 A_s (s.map sc)) (_hc_s : s.length ≤ c_s) : Calls Try.prog 40 #[.slice A_s s.length c_s, .string v] w (Ret w (.int .i64 (slices_Index_string_string s v))) := by
  have s_s := h_s.short; rw [List.length_map] at s_s
  refine calls_intro (vs := [.slice A_s s.length c_s, .string v]) (w := w) Try.func40 rfl Try.ntmps40 rfl (TC.sr (TL.r 1 [] [(4, .i 0)] {} (TL.ns (TC.sr (TL.r 3 [] [(7, .i (s.length : Int)), (8, .i 0)] {} (TL.next rfl ?_))))))
  obtain ⟨R1, hR⟩ : ∃ R, R = slices_Index_string_string_L1 v s 0 := ⟨_, rfl⟩
  refine TC.cut (S := Unit) (fun (_ : Unit) => []) (fun (_ : Unit) => []) (fun (_ : Unit) => R1 = .inl ()) ?_ ?_
  · refine TC.block (TC.lw (X := Nat) (fun k => [(0, .slice A_s s.length c_s), (1, .string v), (7, .i (s.length : Int)), (8, .i (k : Int))]) (fun k => []) (fun k => s.length - k) (fun k => k ≤ s.length ∧ R1 = slices_Index_string_string_L1 v (s.drop k) k) ?_ 0 ⟨Nat.zero_le _, hR⟩ Kr (sb 0))
    rintro k ⟨hk, hI⟩
    refine TC.sr (TL.r 1 [] [(9, .b (decide ((k : Int) < (s.length : Int))))] {} (TL.ns (TC.cond (decide ((k : Int) < (s.length : Int))) rfl Kr (fun h1 => ?_) (fun h1 => ?_))))
    · have hlt := ltN h1
      obtain ⟨x, hx⟩ := elN hlt
      have hd := drop_at hx
      refine TC.sn (TC.seq (TC.block (TC.sr (TL.r 2 [] [(5, .i (k : Int))] {} (TL.nr (TL.r 3 [] [(11, .string v), (12, .slice A_s s.length c_s), (13, .i (k : Int))] {} (TL.v (sV (Instr.indexAt 29 (.slice A_s s.length c_s) (.i (k : Int)))) 14 (.pointer (some (Ix A_s (k * 1)))) (fun w hM => run_index (h_s.sat hM) (by simp) Kr sd sd) {} (TL.v (sV (Instr.loadAt 9 (.pointer (some (Ix A_s (k * 1)))))) 15 (.string x) (fun w hM => run_load_one (off := 0) (i := k) (.string x) (h_s.sat hM) (map_at hx) Kr Kr) {} (TL.r 6 [] [(16, .b (seq v x))] {} (TL.next rfl (TC.cond (seq v x) rfl Kr (fun h2 => ?_) (fun h2 => ?_))))))))))))
      · refine TC.sr (TL.r 2 [] [(4, .i (k : Int))] {} (TL.next rfl (TC.ret (TE.rb (TE.rt (TE.rt (TE.rb (TE.rt (TE.rt ?_)))))))))
        exact TE.ret [] (.i (k : Int)) {} (by unfold slices_Index_string_string; refine eS (fun z => (.i z : Value)) ?_; exact elim_r (hR.symm.trans (hI.trans (by rw [hd]; exact cond_t h2 (rfl)))) rfl)
      · exact TC.skip (TE.nb (TE.next (TC.region (TL.r 2 [] [(8, .i (w64 ((k : Int) + 1)))] {} (TL.done rfl (TE.rw 8 (.i (w64 ((k : Int) + 1))) (.i ((k + 1 : Nat) : Int)) Kr (w64_cast k (by omega)) (TE.again (x := k) (k + 1) ⟨by omega, hI.trans (by rw [hd]; exact cond_f h2 (rfl))⟩ (mN hlt) Kr (sb 0))))))))
    · have hd := dropN h1
      refine TC.exit (TE.et (TE.et (TE.exit_same ?_)))
      exact TE.cut () (hI.trans (by rw [hd]; exact rfl)) Kr (sb 0)
  · intro _ hJ
    exact TE.nr (TL.r 1 [] [(4, .i (-1))] {} (TL.next rfl (TC.ret (TE.ret [] (.i (-1)) {} (by unfold slices_Index_string_string; refine eS (fun z => (.i z : Value)) ?_; exact elim_l (hR.symm.trans hJ) (rfl))))))
def slices_Contains_string_string (s : List ByteArray) (v : ByteArray) : Bool :=
  let r1 := slices_Index_string_string s v
  decide (r1 ≥ 0)
set_option maxRecDepth 100000 in
theorem slices_Contains_string_string_w (A_s : Option Addr) (c_s : Nat) (s : List ByteArray) (v : ByteArray) (w : World) (h_s : Rd w 1 A_s (s.map sc)) (hc_s : s.length ≤ c_s) : Calls Try.prog 29 #[.slice A_s s.length c_s, .string v] w (Ret w (.bool (slices_Contains_string_string s v))) := by
  have s_s := h_s.short; rw [List.length_map] at s_s
  exact calls_intro (vs := [.slice A_s s.length c_s, .string v]) (w := w) Try.func29 rfl Try.ntmps29 rfl (TC.sr (TL.r 1 [] [(4, .b false)] {} (TL.nr (TL.r 2 [] [(5, .slice A_s s.length c_s), (6, .string v)] {} (TL.c 7 (slices_Index_string_string s v) (fun r1 => .i r1) (fun w hM => slices_Index_string_string_w A_s c_s s v w (h_s.sat hM) hc_s) {} (fun r1 hr1 => TL.r 5 [] [(4, .b (decide (r1 ≥ 0)))] {} (TL.next rfl (TC.ret (TE.ret [] (.b (decide (r1 ≥ 0))) {} (by unfold slices_Contains_string_string; refine eS (fun z => (.b z : Value)) ?_; subst hr1; exact rfl))))))))))
def chart_checkAirway_1 (b_ : Airway) (x : Airway) : Bool :=
  seq b_.Name x.Name
set_option maxRecDepth 100000 in
theorem chart_checkAirway_1_w (b_ : Airway) (A_b__Fixes : Option Addr) (c_b__Fixes : Nat) (a_x : Addr) (x : Airway) (A_x_Fixes : Option Addr) (c_x_Fixes : Nat) (w : World) (h_b__Fixes : Rd w 1 A_b__Fixes (b_.Fixes.map sc)) (_hc_b__Fixes : b_.Fixes.length ≤ c_b__Fixes) (h_x : Rd w 2 (some a_x) [#[.string x.Name, .slice A_x_Fixes x.Fixes.length c_x_Fixes]]) (hr_x_Fixes : Rd w 1 A_x_Fixes (x.Fixes.map sc)) (_hl_x_Fixes : x.Fixes.length ≤ c_x_Fixes) : Calls Try.prog 28 #[.agg #[.string b_.Name, .slice A_b__Fixes b_.Fixes.length c_b__Fixes], .pointer (some a_x)] w (Ret w (.bool (chart_checkAirway_1 b_ x))) := by
  have s_b__Fixes := h_b__Fixes.short; rw [List.length_map] at s_b__Fixes
  have s_x_Fixes := hr_x_Fixes.short; rw [List.length_map] at s_x_Fixes
  exact calls_intro (vs := [.agg #[.string b_.Name, .slice A_b__Fixes b_.Fixes.length c_b__Fixes], .pointer (some a_x)]) (w := w) Try.func28 rfl Try.ntmps28 rfl (TC.sr (TL.nw 2 (fun b1 => .p0 b1) (fun b1 => Bk b1 #[.string b_.Name, .slice A_b__Fixes b_.Fixes.length c_b__Fixes] 43) (fun b1 => {}) (fun b1 => TL.r 2 [] [(3, .b false)] {} (TL.nr (TL.r 3 [0] [(5, .string b_.Name), (6, .pointer (some a_x))] {} (TL.v (sV (Instr.loadAt 9 (.pointer (some a_x)))) 7 (.string x.Name) (fun w hM => run_load_one (off := 0) (.string x.Name) (h_x.sat hM) (rows_one _) Kr Kr) {} (TL.r 6 [] [(3, .b (seq b_.Name x.Name))] {} (TL.next rfl (TC.ret (TE.ret [] (.b (seq b_.Name x.Name)) {} (by unfold chart_checkAirway_1; refine eS (fun z => (.b z : Value)) ?_; exact rfl)))))))))))
def IndexFunc_air_L1 (c0 : Airway) : List Airway → Nat → ((Unit) ⊕ (Int))
  | [], _ => .inl ()
  | x :: xs, k => let r1 := chart_checkAirway_1 x c0
    cond r1 (
      .inr (k : Int)) (
      IndexFunc_air_L1 c0 xs (k + 1))
def IndexFunc_air (s : List Airway) (c0 : Airway) : Int :=
  Sum.elim (fun _ =>
    (-1)) (fun r => r) (IndexFunc_air_L1 c0 s 0)
set_option maxRecDepth 100000 in
theorem IndexFunc_air_w (A_s : Option Addr) (c_s : Nat) (s : List Airway) (o_s : List (AirwayR)) (a_c0 : Addr) (c0 : Airway) (A_c0_Fixes : Option Addr) (c_c0_Fixes : Nat) (w : World) (h_s : Rd w 2 A_s (o_s.map AirwayR.c)) (_hc_s : s.length ≤ c_s) (hd_s : ∀ s ∈ (o_s.map AirwayR.Fixes), s.rd w 1 sc) (he_s : s = o_s.map AirwayR.p) (h_c0 : Rd w 2 (some a_c0) [#[.string c0.Name, .slice A_c0_Fixes c0.Fixes.length c_c0_Fixes]]) (hr_c0_Fixes : Rd w 1 A_c0_Fixes (c0.Fixes.map sc)) (hl_c0_Fixes : c0.Fixes.length ≤ c_c0_Fixes) : Calls Try.prog 39 #[.slice A_s s.length c_s, .func (.func 28) #[] #[.pointer (some a_c0)]] w (Ret w (.int .i64 (IndexFunc_air s c0))) := by
  have s_s := h_s.short; rw [← dl_len he_s] at s_s
  have s_c0_Fixes := hr_c0_Fixes.short; rw [List.length_map] at s_c0_Fixes
  refine calls_intro (vs := [.slice A_s s.length c_s, .func (.func 28) #[] #[.pointer (some a_c0)]]) (w := w) Try.func39 rfl Try.ntmps39 rfl (TC.sr (TL.r 1 [] [(4, .i 0)] {} (TL.ns (TC.sr (TL.r 3 [] [(7, .i (s.length : Int)), (8, .i 0)] {} (TL.next rfl ?_))))))
  obtain ⟨R1, hR⟩ : ∃ R, R = IndexFunc_air_L1 c0 s 0 := ⟨_, rfl⟩
  refine TC.cut (S := Unit) (fun (_ : Unit) => []) (fun (_ : Unit) => []) (fun (_ : Unit) => R1 = .inl ()) ?_ ?_
  · refine TC.block (TC.lw (X := Nat) (fun k => [(0, .slice A_s s.length c_s), (1, .func (.func 28) #[] #[.pointer (some a_c0)]), (7, .i (s.length : Int)), (8, .i (k : Int))]) (fun k => []) (fun k => s.length - k) (fun k => k ≤ s.length ∧ R1 = IndexFunc_air_L1 c0 (s.drop k) k) ?_ 0 ⟨Nat.zero_le _, hR⟩ Kr (sb 0))
    rintro k ⟨hk, hI⟩
    refine TC.sr (TL.r 1 [] [(9, .b (decide ((k : Int) < (s.length : Int))))] {} (TL.ns (TC.cond (decide ((k : Int) < (s.length : Int))) rfl Kr (fun h1 => ?_) (fun h1 => ?_))))
    · have hlt := ltN h1
      obtain ⟨x, hx⟩ := elN hlt
      have hd := drop_at hx
      refine TC.sn (TC.seq (TC.block (TC.sr (TL.r 2 [] [(5, .i (k : Int))] {} (TL.nr (TL.r 3 [] [(11, .func (.func 28) #[] #[.pointer (some a_c0)]), (12, .slice A_s s.length c_s), (13, .i (k : Int))] {} (TL.v (sV (Instr.indexAt 23 (.slice A_s s.length c_s) (.i (k : Int)))) 14 (.pointer (some (Ix A_s (k * 2)))) (fun w hM => run_index (h_s.sat hM) (dl_len he_s) Kr sd sd) {} ?_)))))))
      have s_s1 := (el_rd (dl_all (S := AirwayR.Fixes) (z := AirwayR.zero) rfl hd_s k) (congrArg Airway.Fixes (dl_at (z := AirwayR.zero) he_s hx))).short; rw [List.length_map] at s_s1
      refine TL.v (sV (Instr.loadAt 43 (.pointer (some (Ix A_s (k * 2)))))) 15 (.agg #[.string x.Name, .slice ((o_s[k]?.getD AirwayR.zero).Fixes.A) x.Fixes.length ((o_s[k]?.getD AirwayR.zero).Fixes.cap)]) (fun w hM => run_load_agg (n := 2) (off := 0) (i := k) (.agg #[.string x.Name, .slice ((o_s[k]?.getD AirwayR.zero).Fixes.A) x.Fixes.length ((o_s[k]?.getD AirwayR.zero).Fixes.cap)]) (h_s.sat hM) ((map_at (getD_at _ _ AirwayR.zero (dl_lt he_s (List.getElem?_eq_some_iff.1 hx).1))).trans (congrArg some (AirwayR.c_at (dl_at (z := AirwayR.zero) he_s hx)))) Kr Kr Kr) {} ?_
      refine TL.c 16 (chart_checkAirway_1 x c0) (fun r1 => .b r1) (fun w hM => chart_checkAirway_1_w x ((o_s[k]?.getD AirwayR.zero).Fixes.A) ((o_s[k]?.getD AirwayR.zero).Fixes.cap) a_c0 c0 A_c0_Fixes c_c0_Fixes w (el_rd ((dl_all (S := AirwayR.Fixes) (z := AirwayR.zero) rfl hd_s k).sat hM) (congrArg Airway.Fixes (dl_at (z := AirwayR.zero) he_s hx))) (el_le ((dl_all (S := AirwayR.Fixes) (z := AirwayR.zero) rfl hd_s k).sat hM) (congrArg Airway.Fixes (dl_at (z := AirwayR.zero) he_s hx))) (h_c0.sat hM) (hr_c0_Fixes.sat hM) hl_c0_Fixes) {} (fun r1 hr1 => TL.next rfl (TC.cond r1 rfl Kr (fun h2 => ?_) (fun h2 => ?_)))
      · refine TC.sr (TL.r 2 [] [(4, .i (k : Int))] {} (TL.next rfl (TC.ret (TE.rb (TE.rt (TE.rt (TE.rb (TE.rt (TE.rt ?_)))))))))
        exact TE.ret [] (.i (k : Int)) {} (by unfold IndexFunc_air; refine eS (fun z => (.i z : Value)) ?_; subst hr1; exact elim_r (hR.symm.trans (hI.trans (by rw [hd]; exact cond_t h2 (rfl)))) rfl)
      · exact TC.skip (TE.nb (TE.next (TC.region (TL.r 2 [] [(8, .i (w64 ((k : Int) + 1)))] {} (TL.done rfl (TE.rw 8 (.i (w64 ((k : Int) + 1))) (.i ((k + 1 : Nat) : Int)) Kr (w64_cast k (by omega)) (TE.again (x := k) (k + 1) ⟨by omega, hI.trans (by subst hr1; rw [hd]; exact cond_f h2 (rfl))⟩ (mN hlt) Kr (sb 0))))))))
    · have hd := dropN h1
      refine TC.exit (TE.et (TE.et (TE.exit_same ?_)))
      exact TE.cut () (hI.trans (by rw [hd]; exact rfl)) Kr (sb 0)
  · intro _ hJ
    exact TE.nr (TL.r 1 [] [(4, .i (-1))] {} (TL.next rfl (TC.ret (TE.ret [] (.i (-1)) {} (by unfold IndexFunc_air; refine eS (fun z => (.i z : Value)) ?_; exact elim_l (hR.symm.trans hJ) (rfl))))))
def ContainsFunc_air (s : List Airway) (c0 : Airway) : Bool :=
  let r1 := IndexFunc_air s c0
  decide (r1 ≥ 0)
set_option maxRecDepth 100000 in
theorem ContainsFunc_air_w (A_s : Option Addr) (c_s : Nat) (s : List Airway) (o_s : List (AirwayR)) (a_c0 : Addr) (c0 : Airway) (A_c0_Fixes : Option Addr) (c_c0_Fixes : Nat) (w : World) (h_s : Rd w 2 A_s (o_s.map AirwayR.c)) (hc_s : s.length ≤ c_s) (hd_s : ∀ s ∈ (o_s.map AirwayR.Fixes), s.rd w 1 sc) (he_s : s = o_s.map AirwayR.p) (h_c0 : Rd w 2 (some a_c0) [#[.string c0.Name, .slice A_c0_Fixes c0.Fixes.length c_c0_Fixes]]) (hr_c0_Fixes : Rd w 1 A_c0_Fixes (c0.Fixes.map sc)) (hl_c0_Fixes : c0.Fixes.length ≤ c_c0_Fixes) : Calls Try.prog 27 #[.slice A_s s.length c_s, .func (.func 28) #[] #[.pointer (some a_c0)]] w (Ret w (.bool (ContainsFunc_air s c0))) := by
  have s_s := h_s.short; rw [← dl_len he_s] at s_s
  have s_c0_Fixes := hr_c0_Fixes.short; rw [List.length_map] at s_c0_Fixes
  exact calls_intro (vs := [.slice A_s s.length c_s, .func (.func 28) #[] #[.pointer (some a_c0)]]) (w := w) Try.func27 rfl Try.ntmps27 rfl (TC.sr (TL.r 1 [] [(4, .b false)] {} (TL.nr (TL.r 2 [] [(5, .slice A_s s.length c_s), (6, .func (.func 28) #[] #[.pointer (some a_c0)])] {} (TL.c 7 (IndexFunc_air s c0) (fun r1 => .i r1) (fun w hM => IndexFunc_air_w A_s c_s s o_s a_c0 c0 A_c0_Fixes c_c0_Fixes w (h_s.sat hM) hc_s (fun s hs => (hd_s s hs).sat hM) he_s (h_c0.sat hM) (hr_c0_Fixes.sat hM) hl_c0_Fixes) {} (fun r1 hr1 => TL.r 5 [] [(4, .b (decide (r1 ≥ 0)))] {} (TL.next rfl (TC.ret (TE.ret [] (.b (decide (r1 ≥ 0))) {} (by unfold ContainsFunc_air; refine eS (fun z => (.b z : Value)) ?_; subst hr1; exact rfl))))))))))
def chart_checkAirway_L1 (c : Chart) (i : Int) : List ByteArray → Nat → ((Unit) ⊕ (Int))
  | [], _ => .inl ()
  | x :: xs, k => let r4 := chart_index c x
    cond (decide (r4 < 0)) (
      .inr 6) (
      let r5 := slices_Contains_string_string (((c.Airways[i.toNat]?.getD Airway.zero).Fixes).take k) x
      cond r5 (
        .inr 7) (
        cond (decide ((k : Int) > 0)) (
          let r6 := chart_index c (((c.Airways[i.toNat]?.getD Airway.zero).Fixes)[(k - 1)]?.getD (⟨#[]⟩ : ByteArray))
          cond (P.eqb ((c.Fixes[r4.toNat]?.getD Fix.zero).At) ((c.Fixes[r6.toNat]?.getD Fix.zero).At)) (
            .inr 10) (
            chart_checkAirway_L1 c i xs (k + 1))) (
          chart_checkAirway_L1 c i xs (k + 1))))
def chart_checkAirway (c : Chart) (i : Int) : Int :=
  let r1 := chart_Name ((c.Airways[i.toNat]?.getD Airway.zero).Name)
  cond (!r1) (
    5) (
    let r2 := chart_index c ((c.Airways[i.toNat]?.getD Airway.zero).Name)
    cond (decide (r2 ≥ 0)) (
      7) (
      let r3 := ContainsFunc_air (c.Airways.take i.toNat) (c.Airways[i.toNat]?.getD Airway.zero)
      cond r3 (
        7) (
        cond ((decide (((c.Airways[i.toNat]?.getD Airway.zero).Fixes.length : Int) < 2)) || (decide (((c.Airways[i.toNat]?.getD Airway.zero).Fixes.length : Int) > 24))) (
          3) (
          Sum.elim (fun _ =>
            0) (fun r => r) (chart_checkAirway_L1 c i ((c.Airways[i.toNat]?.getD Airway.zero).Fixes) 0)))))
theorem ixL {n : ByteArray} : ∀ (xs : List Fix) (k : Nat), IndexFunc_fix_L1 n xs k = .inl () ∨ ∃ j : Nat, IndexFunc_fix_L1 n xs k = .inr ((k + j : Nat) : Int) ∧ j < xs.length
  | [], _ => .inl rfl
  | y :: xs, k => by
    unfold IndexFunc_fix_L1
    simp only
    cases chart_index_1 y n with
    | true => exact .inr ⟨0, rfl, Nat.zero_lt_succ _⟩
    | false =>
      rcases ixL xs (k + 1) with h | ⟨j, h, h2⟩
      · exact .inl h
      · exact .inr ⟨j + 1, by rw [cond_false, h]; congr 2; omega, Nat.succ_lt_succ h2⟩
theorem ix_lt {c : Chart} {n : ByteArray} {r : Int} (h : chart_index c n = r) : r < (c.Fixes.length : Int) ∧ -1 ≤ r := by
  subst h
  unfold chart_index IndexFunc_fix
  rcases ixL (n := n) c.Fixes 0 with h | ⟨j, h, h2⟩
  · rw [h]; show (-1 : Int) < _ ∧ -1 ≤ (-1 : Int); omega
  · rw [h]; show ((0 + j : Nat) : Int) < _ ∧ -1 ≤ ((0 + j : Nat) : Int); omega
theorem ix_step {c : Chart} {l : List ByteArray} {k : Nat} {x : ByteArray} {r : Int} (ix : ∀ j : Nat, j < k → 0 ≤ chart_index c (l[j]?.getD (⟨#[]⟩ : ByteArray))) (hx : l[k]? = some x) (hr : chart_index c x = r) (h : decide (r < 0) = false) :
    ∀ j : Nat, j < k + 1 → 0 ≤ chart_index c (l[j]?.getD (⟨#[]⟩ : ByteArray)) := fun j hj => by
  rcases Nat.lt_succ_iff_lt_or_eq.1 hj with h_ | rfl
  · exact ix j h_
  · rw [hx, Option.getD_some, hr]
    have := of_decide_eq_false h
    omega
theorem ix_pos {c : Chart} {l : List ByteArray} {k : Nat} {r : Int} (ix : ∀ j : Nat, j < k → 0 ≤ chart_index c (l[j]?.getD (⟨#[]⟩ : ByteArray))) (hr : chart_index c (l[(k - 1)]?.getD (⟨#[]⟩ : ByteArray)) = r) (hk : (k : Int) > 0) : 0 ≤ r := by
  subst hr
  exact ix (k - 1) (by omega)
set_option maxHeartbeats 4000000 in
set_option maxRecDepth 100000 in
theorem chart_checkAirway_w (c : Chart) (A_c_Fixes : Option Addr) (c_c_Fixes : Nat) (A_c_Airways : Option Addr) (c_c_Airways : Nat) (o_c_Airways : List (AirwayR)) (i : Int) (w : World) (h_c_Fixes : Rd w 3 A_c_Fixes (c.Fixes.map Fix.c)) (hc_c_Fixes : c.Fixes.length ≤ c_c_Fixes) (h_c_Airways : Rd w 2 A_c_Airways (o_c_Airways.map AirwayR.c)) (hc_c_Airways : c.Airways.length ≤ c_c_Airways) (hd_c_Airways : ∀ s ∈ (o_c_Airways.map AirwayR.Fixes), s.rd w 1 sc) (_he_c_Airways : c.Airways = o_c_Airways.map AirwayR.p) (hi : 0 ≤ i ∧ i < (c.Airways.length : Int)) : Calls Try.prog 13 #[.agg #[.slice A_c_Fixes c.Fixes.length c_c_Fixes, .slice A_c_Airways c.Airways.length c_c_Airways], .int .i64 i] w (Ret w (.int .i64 (chart_checkAirway c i))) := by
  have s_c_Fixes := h_c_Fixes.short; rw [List.length_map] at s_c_Fixes
  have s_c_Airways := h_c_Airways.short; rw [← dl_len _he_c_Airways] at s_c_Airways
  refine calls_intro (vs := [.agg #[.slice A_c_Fixes c.Fixes.length c_c_Fixes, .slice A_c_Airways c.Airways.length c_c_Airways], .i i]) (w := w) Try.func13 rfl Try.ntmps13 rfl (TC.sr (TL.nw 2 (fun b1 => .p0 b1) (fun b1 => Bk b1 #[.slice A_c_Fixes c.Fixes.length c_c_Fixes, .slice A_c_Airways c.Airways.length c_c_Airways] 25) (fun b1 => {}) (fun b1 => TL.r 2 [] [(4, .i 0)] {} (TL.nr (TL.r 3 [0] [(10, .slice A_c_Airways c.Airways.length c_c_Airways), (11, .i i)] {} (TL.v (sV (Instr.indexAt 23 (.slice A_c_Airways c.Airways.length c_c_Airways) (.i i))) 12 (.pointer (some (Ix A_c_Airways (i.toNat * 2)))) (fun w hM => run_index (h_c_Airways.sat hM) (dl_len _he_c_Airways) Kr (by (try have kn_ := ix_lt hr4); (try have kn6_ := ix_lt hr6); (try have kp_ := ix_pos hl_ix hr6 (by omega)); exact sd) (by (try have kn_ := ix_lt hr4); (try have kn6_ := ix_lt hr6); (try have kp_ := ix_pos hl_ix hr6 (by omega)); exact sd)) {} ?_))))))
  have s_s1 := (el_rd (dl_all (S := AirwayR.Fixes) (z := AirwayR.zero) rfl hd_c_Airways i.toNat) (congrArg Airway.Fixes (show AirwayR.p (o_c_Airways[i.toNat]?.getD AirwayR.zero) = (c.Airways[i.toNat]?.getD Airway.zero) from dl_get (z := AirwayR.zero) _he_c_Airways i.toNat))).short; rw [List.length_map] at s_s1
  refine TL.v (sV (Instr.loadAt 43 (.pointer (some (Ix A_c_Airways (i.toNat * 2)))))) 13 (.agg #[.string ((c.Airways[i.toNat]?.getD Airway.zero).Name), .slice ((o_c_Airways[i.toNat]?.getD AirwayR.zero).Fixes.A) ((c.Airways[i.toNat]?.getD Airway.zero).Fixes.length) ((o_c_Airways[i.toNat]?.getD AirwayR.zero).Fixes.cap)]) (fun w hM => run_load_agg (n := 2) (off := 0) (i := i.toNat) (.agg #[.string ((c.Airways[i.toNat]?.getD Airway.zero).Name), .slice ((o_c_Airways[i.toNat]?.getD AirwayR.zero).Fixes.A) ((c.Airways[i.toNat]?.getD Airway.zero).Fixes.length) ((o_c_Airways[i.toNat]?.getD AirwayR.zero).Fixes.cap)]) (h_c_Airways.sat hM) ((map_at (getD_at _ _ AirwayR.zero (dl_lt _he_c_Airways (by (try have kn_ := ix_lt hr4); (try have kn6_ := ix_lt hr6); (try have kp_ := ix_pos hl_ix hr6 (by omega)); exact sd)))).trans (congrArg some (AirwayR.c_at (show AirwayR.p (o_c_Airways[i.toNat]?.getD AirwayR.zero) = (c.Airways[i.toNat]?.getD Airway.zero) from dl_get (z := AirwayR.zero) _he_c_Airways i.toNat)))) Kr Kr Kr) {} (TL.nw 5 (fun b2 => .p0 b2) (fun b2 => Bk b2 #[.string ByteArray.empty, .slice none 0 0] 43) (fun b2 => {}) (fun b2 => TL.s 0 (Bk b2 #[.string ((c.Airways[i.toNat]?.getD Airway.zero).Name), .slice ((o_c_Airways[i.toNat]?.getD AirwayR.zero).Fixes.A) ((c.Airways[i.toNat]?.getD Airway.zero).Fixes.length) ((o_c_Airways[i.toNat]?.getD AirwayR.zero).Fixes.cap)] 43) (fun _ => {}) (TL.ns (TC.block (TC.sr (TL.r 2 [0] [(16, .string ((c.Airways[i.toNat]?.getD Airway.zero).Name))] {} (TL.c 17 (chart_Name ((c.Airways[i.toNat]?.getD Airway.zero).Name)) (fun r1 => .b r1) (fun w _ => chart_Name_w ((c.Airways[i.toNat]?.getD Airway.zero).Name) w) {} (fun r1 hr1 => TL.r 5 [] [(14, .b (!r1))] {} (TL.next rfl (TC.cond (!r1) rfl Kr (fun h1 => ?_) (fun h1 => ?_)))))))))))
  · refine TC.sr (TL.r 1 [] [(4, .i 5)] {} (TL.next rfl (TC.ret (TE.rb (TE.rt ?_)))))
    exact TE.ret [] (.i 5) {} (by unfold chart_checkAirway; refine eS (fun z => (.i z : Value)) ?_; subst hr1; exact cond_t h1 (rfl))
  · refine TC.sr (TL.r 3 [1, 0] [(20, .agg #[.slice A_c_Fixes c.Fixes.length c_c_Fixes, .slice A_c_Airways c.Airways.length c_c_Airways]), (22, .string ((c.Airways[i.toNat]?.getD Airway.zero).Name))] {} (TL.c 23 (chart_index c ((c.Airways[i.toNat]?.getD Airway.zero).Name)) (fun r2 => .i r2) (fun w hM => chart_index_w c A_c_Fixes c_c_Fixes A_c_Airways c_c_Airways o_c_Airways ((c.Airways[i.toNat]?.getD Airway.zero).Name) w (h_c_Fixes.sat hM) hc_c_Fixes (h_c_Airways.sat hM) hc_c_Airways (fun s hs => (hd_c_Airways s hs).sat hM) _he_c_Airways) {} (fun r2 hr2 => TL.r 6 [] [(25, .b (decide (r2 ≥ 0)))] {} (TL.split 25 (decide (r2 ≥ 0)) Kr (fun h2 => ?_) (fun h2 => ?_)))))
    · refine TL.r 14 [] [(19, .b true)] {} (TL.next rfl (TC.condT rfl Kr (TC.sr (TL.r 1 [] [(4, .i 7)] {} (TL.next rfl (TC.ret (TE.rb (TE.rt ?_))))))))
      exact TE.ret [] (.i 7) {} (by unfold chart_checkAirway; refine eS (fun z => (.i z : Value)) ?_; subst hr1 hr2; exact cond_f h1 (cond_t h2 (rfl)))
    · have q2_0 := (dec_f h2)
      refine TL.r 9 [1] [(27, .slice A_c_Airways c.Airways.length c_c_Airways), (28, .i i)] {} ?_
      obtain ⟨A1, hA1⟩ : ∃ A0_, A0_ = (if c_c_Airways = 0 then A_c_Airways else A_c_Airways.map (fun a => a.add (0 * 2))) := ⟨_, rfl⟩
      have hR1 : Rd w 2 A1 ((o_c_Airways.take i.toNat).map AirwayR.c) := by rw [hA1]; exact h_c_Airways.cutMap 0 _ (dl_le _he_c_Airways hc_c_Airways)
      have hC1 : (c.Airways.take i.toNat).length ≤ (c_c_Airways - 0) := by simp only [List.length_take]; omega
      refine TL.v (sV (Instr.sliceAt 23 (.slice A_c_Airways c.Airways.length c_c_Airways) none (some (.i i)) none)) 29 (.slice A1 ((c.Airways.take i.toNat).length) (c_c_Airways - 0)) (fun w hM => (run_slice 0 i.toNat Kr (.inl ⟨rfl, rfl⟩) (.inr ⟨_, _, rfl, (by (try have kn_ := ix_lt hr4); (try have kn6_ := ix_lt hr6); (try have kp_ := ix_pos hl_ix hr6 (by omega)); exact sd), rfl⟩) (by (try have kn_ := ix_lt hr4); (try have kn6_ := ix_lt hr6); (try have kp_ := ix_pos hl_ix hr6 (by omega)); exact sd) (by (try have kn_ := ix_lt hr4); (try have kn6_ := ix_lt hr6); (try have kp_ := ix_pos hl_ix hr6 (by omega)); exact sd)).trans (by rw [hA1]; (try have kn_ := ix_lt hr4); (try have kn6_ := ix_lt hr6); (try have kp_ := ix_pos hl_ix hr6 (by omega)); congr 3; first | (simp only [List.length_take] <;> omega) | (simp only [List.length_take] at * <;> omega))) {} (TL.r 11 [] [(30, .func (.func 28) #[] #[.p0 b2])] {} (TL.c 31 (ContainsFunc_air (c.Airways.take i.toNat) (c.Airways[i.toNat]?.getD Airway.zero)) (fun r3 => .b r3) (fun w hM => ContainsFunc_air_w A1 (c_c_Airways - 0) (c.Airways.take i.toNat) (o_c_Airways.take i.toNat) ⟨b2, 0, none⟩ (c.Airways[i.toNat]?.getD Airway.zero) ((o_c_Airways[i.toNat]?.getD AirwayR.zero).Fixes.A) ((o_c_Airways[i.toNat]?.getD AirwayR.zero).Fixes.cap) w (hR1.sat hM) hC1 (fun s hs => ((dl_takeh hd_c_Airways i.toNat) s hs).sat hM) (dl_take _he_c_Airways i.toNat) (Rd.lit hM 0 _ rfl Kr Kr Kr) (el_rd ((dl_all (S := AirwayR.Fixes) (z := AirwayR.zero) rfl hd_c_Airways i.toNat).sat hM) (congrArg Airway.Fixes (show AirwayR.p (o_c_Airways[i.toNat]?.getD AirwayR.zero) = (c.Airways[i.toNat]?.getD Airway.zero) from dl_get (z := AirwayR.zero) _he_c_Airways i.toNat))) (el_le ((dl_all (S := AirwayR.Fixes) (z := AirwayR.zero) rfl hd_c_Airways i.toNat).sat hM) (congrArg Airway.Fixes (show AirwayR.p (o_c_Airways[i.toNat]?.getD AirwayR.zero) = (c.Airways[i.toNat]?.getD Airway.zero) from dl_get (z := AirwayR.zero) _he_c_Airways i.toNat)))) {} (fun r3 hr3 => TL.r 14 [] [(19, .b r3)] {} (TL.next rfl (TC.cond r3 rfl Kr (fun h3 => ?_) (fun h3 => ?_))))))
      · refine TC.sr (TL.r 1 [] [(4, .i 7)] {} (TL.next rfl (TC.ret (TE.rb (TE.rt ?_)))))
        exact TE.ret [] (.i 7) {} (by unfold chart_checkAirway; refine eS (fun z => (.i z : Value)) ?_; subst hr1 hr2 hr3; exact cond_f h1 (cond_f h2 (cond_t h3 (rfl))))
      · refine TC.sr (TL.r 5 [0] [(38, .b (decide (((c.Airways[i.toNat]?.getD Airway.zero).Fixes.length : Int) < 2)))] {} (TL.j 38 (decide (((c.Airways[i.toNat]?.getD Airway.zero).Fixes.length : Int) < 2)) 10 [] [0] (fun β => [(43, .b (β || (decide (((c.Airways[i.toNat]?.getD Airway.zero).Fixes.length : Int) > 24))))]) Kr {} {} (TL.r 11 [] [(33, .b ((decide (((c.Airways[i.toNat]?.getD Airway.zero).Fixes.length : Int) < 2)) || (decide (((c.Airways[i.toNat]?.getD Airway.zero).Fixes.length : Int) > 24))))] {} (TL.next rfl (TC.cond ((decide (((c.Airways[i.toNat]?.getD Airway.zero).Fixes.length : Int) < 2)) || (decide (((c.Airways[i.toNat]?.getD Airway.zero).Fixes.length : Int) > 24))) rfl Kr (fun h4 => ?_) (fun h4 => ?_))))))
        · refine TC.sr (TL.r 1 [] [(4, .i 3)] {} (TL.next rfl (TC.ret (TE.rb (TE.rt ?_)))))
          exact TE.ret [] (.i 3) {} (by unfold chart_checkAirway; refine eS (fun z => (.i z : Value)) ?_; subst hr1 hr2 hr3; exact cond_f h1 (cond_f h2 (cond_f h3 (cond_t h4 (rfl)))))
        · have q4_0 := (dec_f (or_f1 h4))
          have q4_1 := (dec_f (or_f2 h4))
          refine TC.skip (TE.nb (TE.next (TC.seq (TC.sr (TL.r 4 [0] [(45, .slice ((o_c_Airways[i.toNat]?.getD AirwayR.zero).Fixes.A) ((c.Airways[i.toNat]?.getD Airway.zero).Fixes.length) ((o_c_Airways[i.toNat]?.getD AirwayR.zero).Fixes.cap)), (46, .i ((c.Airways[i.toNat]?.getD Airway.zero).Fixes.length : Int)), (47, .i 0)] {} (TL.next rfl ?_))))))
          obtain ⟨R1, hR⟩ : ∃ R, R = chart_checkAirway_L1 c i ((c.Airways[i.toNat]?.getD Airway.zero).Fixes) 0 := ⟨_, rfl⟩
          refine TC.cut (S := Unit) (fun (_ : Unit) => []) (fun (_ : Unit) => []) (fun (_ : Unit) => R1 = .inl ()) ?_ ?_
          · refine TC.block (TC.lw (X := Nat) (fun k => [(2, .p0 b1), (5, .p0 b2), (45, .slice ((o_c_Airways[i.toNat]?.getD AirwayR.zero).Fixes.A) ((c.Airways[i.toNat]?.getD Airway.zero).Fixes.length) ((o_c_Airways[i.toNat]?.getD AirwayR.zero).Fixes.cap)), (46, .i ((c.Airways[i.toNat]?.getD Airway.zero).Fixes.length : Int)), (47, .i (k : Int))]) (fun k => [Bk b2 #[.string ((c.Airways[i.toNat]?.getD Airway.zero).Name), .slice ((o_c_Airways[i.toNat]?.getD AirwayR.zero).Fixes.A) ((c.Airways[i.toNat]?.getD Airway.zero).Fixes.length) ((o_c_Airways[i.toNat]?.getD AirwayR.zero).Fixes.cap)] 43, Bk b1 #[.slice A_c_Fixes c.Fixes.length c_c_Fixes, .slice A_c_Airways c.Airways.length c_c_Airways] 25]) (fun k => ((c.Airways[i.toNat]?.getD Airway.zero).Fixes).length - k) (fun k => k ≤ ((c.Airways[i.toNat]?.getD Airway.zero).Fixes).length ∧ R1 = chart_checkAirway_L1 c i (((c.Airways[i.toNat]?.getD Airway.zero).Fixes).drop k) k ∧ (∀ j : Nat, j < k → 0 ≤ chart_index c (((c.Airways[i.toNat]?.getD Airway.zero).Fixes)[j]?.getD (⟨#[]⟩ : ByteArray)))) ?_ 0 ⟨Nat.zero_le _, hR, (fun j hj => absurd hj (Nat.not_lt_zero j))⟩ Kr (sb 3))
            rintro k ⟨hk, hI, hl_ix⟩
            refine TC.sr (TL.r 1 [] [(48, .b (decide ((k : Int) < ((c.Airways[i.toNat]?.getD Airway.zero).Fixes.length : Int))))] {} (TL.ns (TC.cond (decide ((k : Int) < ((c.Airways[i.toNat]?.getD Airway.zero).Fixes.length : Int))) rfl Kr (fun h5 => ?_) (fun h5 => ?_))))
            · have hlt : k < ((c.Airways[i.toNat]?.getD Airway.zero).Fixes).length := by have := of_decide_eq_true h5; first | omega | (simp at this; omega)
              obtain ⟨x, hx⟩ := elN hlt
              have hd := drop_at hx
              refine TC.sn (TC.seq (TC.block (TC.sr (TL.r 1 [] [(49, .i (k : Int))] {} (TL.v (sV (Instr.indexAt 29 (.slice ((o_c_Airways[i.toNat]?.getD AirwayR.zero).Fixes.A) ((c.Airways[i.toNat]?.getD Airway.zero).Fixes.length) ((o_c_Airways[i.toNat]?.getD AirwayR.zero).Fixes.cap)) (.i (k : Int)))) 50 (.pointer (some ((((o_c_Airways[i.toNat]?.getD AirwayR.zero).Fixes.A).getD noAddr).add (k * 1)))) (fun w hM => run_index (el_rd ((dl_all (S := AirwayR.Fixes) (z := AirwayR.zero) rfl hd_c_Airways i.toNat).sat hM) (congrArg Airway.Fixes (show AirwayR.p (o_c_Airways[i.toNat]?.getD AirwayR.zero) = (c.Airways[i.toNat]?.getD Airway.zero) from dl_get (z := AirwayR.zero) _he_c_Airways i.toNat))) (by simp) Kr (by (try have kn_ := ix_lt hr4); (try have kn6_ := ix_lt hr6); (try have kp_ := ix_pos hl_ix hr6 (by omega)); exact sd) (by (try have kn_ := ix_lt hr4); (try have kn6_ := ix_lt hr6); (try have kp_ := ix_pos hl_ix hr6 (by omega)); exact sd)) {} (TL.v (sV (Instr.loadAt 9 (.pointer (some ((((o_c_Airways[i.toNat]?.getD AirwayR.zero).Fixes.A).getD noAddr).add (k * 1)))))) 51 (.string x) (fun w hM => run_load_one (off := 0) (i := k) (.string x) (el_rd ((dl_all (S := AirwayR.Fixes) (z := AirwayR.zero) rfl hd_c_Airways i.toNat).sat hM) (congrArg Airway.Fixes (show AirwayR.p (o_c_Airways[i.toNat]?.getD AirwayR.zero) = (c.Airways[i.toNat]?.getD Airway.zero) from dl_get (z := AirwayR.zero) _he_c_Airways i.toNat))) (map_at hx) Kr Kr) {} (TL.r 5 [] [(6, .i (k : Int)), (7, .string x)] {} (TL.nr (TL.r 2 [1] [(52, .agg #[.slice A_c_Fixes c.Fixes.length c_c_Fixes, .slice A_c_Airways c.Airways.length c_c_Airways]), (53, .string x)] {} (TL.c 54 (chart_index c x) (fun r4 => .i r4) (fun w hM => chart_index_w c A_c_Fixes c_c_Fixes A_c_Airways c_c_Airways o_c_Airways x w (h_c_Fixes.sat hM) hc_c_Fixes (h_c_Airways.sat hM) hc_c_Airways (fun s hs => (hd_c_Airways s hs).sat hM) _he_c_Airways) {} (fun r4 hr4 => TL.r 4 [] [(8, .i r4)] {} (TL.next rfl (TC.block (TC.sr (TL.r 3 [] [(55, .b (decide (r4 < 0)))] {} (TL.next rfl (TC.cond (decide (r4 < 0)) rfl Kr (fun h6 => ?_) (fun h6 => ?_))))))))))))))))))
              · refine TC.sr (TL.r 1 [] [(4, .i 6)] {} (TL.next rfl (TC.ret (TE.rb (TE.rb (TE.rt (TE.rt (TE.rb (TE.rt (TE.rt ?_))))))))))
                exact TE.ret [] (.i 6) {} (by unfold chart_checkAirway; refine eS (fun z => (.i z : Value)) ?_; subst hr1 hr2 hr3 hr4; exact cond_f h1 (cond_f h2 (cond_f h3 (cond_f h4 (elim_r (hR.symm.trans (hI.trans (by rw [hd]; exact cond_t h6 (rfl)))) rfl)))))
              · have q6_0 := (dec_f h6)
                refine TC.sr (TL.r 3 [0] [(60, .slice ((o_c_Airways[i.toNat]?.getD AirwayR.zero).Fixes.A) ((c.Airways[i.toNat]?.getD Airway.zero).Fixes.length) ((o_c_Airways[i.toNat]?.getD AirwayR.zero).Fixes.cap)), (61, .i (k : Int))] {} ?_)
                have hRe1 : Rd w 1 ((o_c_Airways[i.toNat]?.getD AirwayR.zero).Fixes.A) (((c.Airways[i.toNat]?.getD Airway.zero).Fixes).map sc) := el_rd (dl_all (S := AirwayR.Fixes) (z := AirwayR.zero) rfl hd_c_Airways i.toNat) (congrArg Airway.Fixes (show AirwayR.p (o_c_Airways[i.toNat]?.getD AirwayR.zero) = (c.Airways[i.toNat]?.getD Airway.zero) from dl_get (z := AirwayR.zero) _he_c_Airways i.toNat))
                have hCe1 : ((c.Airways[i.toNat]?.getD Airway.zero).Fixes).length ≤ ((o_c_Airways[i.toNat]?.getD AirwayR.zero).Fixes.cap) := el_le (dl_all (S := AirwayR.Fixes) (z := AirwayR.zero) rfl hd_c_Airways i.toNat) (congrArg Airway.Fixes (show AirwayR.p (o_c_Airways[i.toNat]?.getD AirwayR.zero) = (c.Airways[i.toNat]?.getD Airway.zero) from dl_get (z := AirwayR.zero) _he_c_Airways i.toNat))
                obtain ⟨A1_2, hA1_2⟩ : ∃ A0_, A0_ = (if ((o_c_Airways[i.toNat]?.getD AirwayR.zero).Fixes.cap) = 0 then ((o_c_Airways[i.toNat]?.getD AirwayR.zero).Fixes.A) else ((o_c_Airways[i.toNat]?.getD AirwayR.zero).Fixes.A).map (fun a => a.add (0 * 1))) := ⟨_, rfl⟩
                have hR1_2 : Rd w 1 A1_2 ((((c.Airways[i.toNat]?.getD Airway.zero).Fixes).take k).map sc) := by rw [hA1_2]; exact hRe1.cutMap 0 _ hCe1
                have hC1_2 : (((c.Airways[i.toNat]?.getD Airway.zero).Fixes).take k).length ≤ ((o_c_Airways[i.toNat]?.getD AirwayR.zero).Fixes.cap - 0) := by simp only [List.length_take]; omega
                have s_hR1_2 := hR1_2.short; rw [List.length_map] at s_hR1_2
                refine TL.v (sV (Instr.sliceAt 29 (.slice ((o_c_Airways[i.toNat]?.getD AirwayR.zero).Fixes.A) ((c.Airways[i.toNat]?.getD Airway.zero).Fixes.length) ((o_c_Airways[i.toNat]?.getD AirwayR.zero).Fixes.cap)) none (some (.i (k : Int))) none)) 62 (.slice A1_2 ((((c.Airways[i.toNat]?.getD Airway.zero).Fixes).take k).length) ((o_c_Airways[i.toNat]?.getD AirwayR.zero).Fixes.cap - 0)) (fun w hM => (run_slice 0 k Kr (.inl ⟨rfl, rfl⟩) (.inr ⟨_, _, rfl, (by (try have kn_ := ix_lt hr4); (try have kn6_ := ix_lt hr6); (try have kp_ := ix_pos hl_ix hr6 (by omega)); exact sd), rfl⟩) (by (try have kn_ := ix_lt hr4); (try have kn6_ := ix_lt hr6); (try have kp_ := ix_pos hl_ix hr6 (by omega)); exact sd) (by (try have kn_ := ix_lt hr4); (try have kn6_ := ix_lt hr6); (try have kp_ := ix_pos hl_ix hr6 (by omega)); exact sd)).trans (by rw [hA1_2]; (try have kn_ := ix_lt hr4); (try have kn6_ := ix_lt hr6); (try have kp_ := ix_pos hl_ix hr6 (by omega)); congr 3; first | (simp only [List.length_take] <;> omega) | (simp only [List.length_take] at * <;> omega))) {} (TL.r 5 [] [(63, .string x)] {} (TL.c 64 (slices_Contains_string_string (((c.Airways[i.toNat]?.getD Airway.zero).Fixes).take k) x) (fun r5 => .b r5) (fun w hM => slices_Contains_string_string_w A1_2 ((o_c_Airways[i.toNat]?.getD AirwayR.zero).Fixes.cap - 0) (((c.Airways[i.toNat]?.getD Airway.zero).Fixes).take k) x w (hR1_2.sat hM) hC1_2) {} (fun r5 hr5 => TL.r 7 [] [(58, .b r5)] {} (TL.next rfl (TC.cond r5 rfl Kr (fun h7 => ?_) (fun h7 => ?_))))))
                · refine TC.sr (TL.r 1 [] [(4, .i 7)] {} (TL.next rfl (TC.ret (TE.rb (TE.rb (TE.rt (TE.rt (TE.rb (TE.rt (TE.rt ?_))))))))))
                  exact TE.ret [] (.i 7) {} (by unfold chart_checkAirway; refine eS (fun z => (.i z : Value)) ?_; subst hr1 hr2 hr3 hr4 hr5; exact cond_f h1 (cond_f h2 (cond_f h3 (cond_f h4 (elim_r (hR.symm.trans (hI.trans (by rw [hd]; exact cond_f h6 (cond_t h7 (rfl))))) rfl)))))
                · refine TC.seq (TC.draw 25 Kr Kr Kr (TQ.r 3 [] [(68, .b (decide ((k : Int) > 0)))] {} (TQ.split 68 (decide ((k : Int) > 0)) Kr (fun h8 => ?_) (fun h8 => ?_))))
                  · have q8_0 := (dec_t h8)
                    refine TQ.r 6 [1] [(70, .slice A_c_Fixes c.Fixes.length c_c_Fixes), (71, .i r4)] {} (TQ.v (sV (Instr.indexAt 22 (.slice A_c_Fixes c.Fixes.length c_c_Fixes) (.i r4))) 72 (.pointer (some (Ix A_c_Fixes (r4.toNat * 3)))) (fun w hM => run_index (h_c_Fixes.sat hM) (by simp) Kr (by (try have kn_ := ix_lt hr4); (try have kn6_ := ix_lt hr6); (try have kp_ := ix_pos hl_ix hr6 (by omega)); exact sd) (by (try have kn_ := ix_lt hr4); (try have kn6_ := ix_lt hr6); (try have kp_ := ix_pos hl_ix hr6 (by omega)); exact sd)) rfl {} (TQ.r 8 [] [(73, .pointer (some ((Ix A_c_Fixes (r4.toNat * 3)).add 1)))] {} (TQ.v (sV (Instr.loadAt 33 (.pointer (some ((Ix A_c_Fixes (r4.toNat * 3)).add 1))))) 74 (P.v ((c.Fixes[r4.toNat]?.getD Fix.zero).At)) (fun w hM => run_load_agg (n := 2) (off := 1) (i := r4.toNat) (P.v ((c.Fixes[r4.toNat]?.getD Fix.zero).At)) (h_c_Fixes.sat hM) (map_at (getD_at _ _ Fix.zero (by (try have kn_ := ix_lt hr4); (try have kn6_ := ix_lt hr6); (try have kp_ := ix_pos hl_ix hr6 (by omega)); exact sd))) Kr Kr Kr) rfl {} (TQ.r 16 [1, 1, 0] [(76, .slice A_c_Fixes c.Fixes.length c_c_Fixes), (77, .agg #[.slice A_c_Fixes c.Fixes.length c_c_Fixes, .slice A_c_Airways c.Airways.length c_c_Airways]), (79, .slice ((o_c_Airways[i.toNat]?.getD AirwayR.zero).Fixes.A) ((c.Airways[i.toNat]?.getD Airway.zero).Fixes.length) ((o_c_Airways[i.toNat]?.getD AirwayR.zero).Fixes.cap)), (81, .i (w64 ((k : Int) - 1)))] {} (TQ.rw 81 (.i (w64 ((k : Int) - 1))) (.i ((k - 1 : Nat) : Int)) Kr (w64_pred k (by (try have kn_ := ix_lt hr4); (try have kn6_ := ix_lt hr6); (try have kp_ := ix_pos hl_ix hr6 (by omega)); exact sd)) (TQ.v (sV (Instr.indexAt 29 (.slice ((o_c_Airways[i.toNat]?.getD AirwayR.zero).Fixes.A) ((c.Airways[i.toNat]?.getD Airway.zero).Fixes.length) ((o_c_Airways[i.toNat]?.getD AirwayR.zero).Fixes.cap)) (.i ((k - 1 : Nat) : Int)))) 82 (.pointer (some ((((o_c_Airways[i.toNat]?.getD AirwayR.zero).Fixes.A).getD noAddr).add ((k - 1) * 1)))) (fun w hM => run_index (el_rd ((dl_all (S := AirwayR.Fixes) (z := AirwayR.zero) rfl hd_c_Airways i.toNat).sat hM) (congrArg Airway.Fixes (show AirwayR.p (o_c_Airways[i.toNat]?.getD AirwayR.zero) = (c.Airways[i.toNat]?.getD Airway.zero) from dl_get (z := AirwayR.zero) _he_c_Airways i.toNat))) (by simp) Kr (by (try have kn_ := ix_lt hr4); (try have kn6_ := ix_lt hr6); (try have kp_ := ix_pos hl_ix hr6 (by omega)); exact sd) (by (try have kn_ := ix_lt hr4); (try have kn6_ := ix_lt hr6); (try have kp_ := ix_pos hl_ix hr6 (by omega)); exact sd)) rfl {} (TQ.v (sV (Instr.loadAt 9 (.pointer (some ((((o_c_Airways[i.toNat]?.getD AirwayR.zero).Fixes.A).getD noAddr).add ((k - 1) * 1)))))) 83 (.string (((c.Airways[i.toNat]?.getD Airway.zero).Fixes)[(k - 1)]?.getD (⟨#[]⟩ : ByteArray))) (fun w hM => run_load_one (off := 0) (i := (k - 1)) (.string (((c.Airways[i.toNat]?.getD Airway.zero).Fixes)[(k - 1)]?.getD (⟨#[]⟩ : ByteArray))) (el_rd ((dl_all (S := AirwayR.Fixes) (z := AirwayR.zero) rfl hd_c_Airways i.toNat).sat hM) (congrArg Airway.Fixes (show AirwayR.p (o_c_Airways[i.toNat]?.getD AirwayR.zero) = (c.Airways[i.toNat]?.getD Airway.zero) from dl_get (z := AirwayR.zero) _he_c_Airways i.toNat))) (map_at (getD_at _ _ (⟨#[]⟩ : ByteArray) (by (try have kn_ := ix_lt hr4); (try have kn6_ := ix_lt hr6); (try have kp_ := ix_pos hl_ix hr6 (by omega)); exact sd))) Kr Kr) rfl {} (TQ.c 84 (chart_index c (((c.Airways[i.toNat]?.getD Airway.zero).Fixes)[(k - 1)]?.getD (⟨#[]⟩ : ByteArray))) (fun r6 => .i r6) (fun w hM => chart_index_w c A_c_Fixes c_c_Fixes A_c_Airways c_c_Airways o_c_Airways (((c.Airways[i.toNat]?.getD Airway.zero).Fixes)[(k - 1)]?.getD (⟨#[]⟩ : ByteArray)) w (h_c_Fixes.sat hM) hc_c_Fixes (h_c_Airways.sat hM) hc_c_Airways (fun s hs => (hd_c_Airways s hs).sat hM) _he_c_Airways) rfl {} (fun r6 hr6 => TQ.v (sV (Instr.indexAt 22 (.slice A_c_Fixes c.Fixes.length c_c_Fixes) (.i r6))) 85 (.pointer (some (Ix A_c_Fixes (r6.toNat * 3)))) (fun w hM => run_index (h_c_Fixes.sat hM) (by simp) Kr (by (try have kn_ := ix_lt hr4); (try have kn6_ := ix_lt hr6); (try have kp_ := ix_pos hl_ix hr6 (by omega)); exact sd) (by (try have kn_ := ix_lt hr4); (try have kn6_ := ix_lt hr6); (try have kp_ := ix_pos hl_ix hr6 (by omega)); exact sd)) rfl {} (TQ.r 21 [] [(86, .pointer (some ((Ix A_c_Fixes (r6.toNat * 3)).add 1)))] {} (TQ.v (sV (Instr.loadAt 33 (.pointer (some ((Ix A_c_Fixes (r6.toNat * 3)).add 1))))) 87 (P.v ((c.Fixes[r6.toNat]?.getD Fix.zero).At)) (fun w hM => run_load_agg (n := 2) (off := 1) (i := r6.toNat) (P.v ((c.Fixes[r6.toNat]?.getD Fix.zero).At)) (h_c_Fixes.sat hM) (map_at (getD_at _ _ Fix.zero (by (try have kn_ := ix_lt hr4); (try have kn6_ := ix_lt hr6); (try have kp_ := ix_pos hl_ix hr6 (by omega)); exact sd))) Kr Kr Kr) rfl {} (TQ.v (sV (do eqGuard .eql 33 (.tmp 74) (.tmp 87) (P.v ((c.Fixes[r4.toNat]?.getD Fix.zero).At)) (P.v ((c.Fixes[r6.toNat]?.getD Fix.zero).At)); binOp .eql 33 (P.v ((c.Fixes[r4.toNat]?.getD Fix.zero).At)) (P.v ((c.Fixes[r6.toNat]?.getD Fix.zero).At)))) 88 (.b (P.eqb ((c.Fixes[r4.toNat]?.getD Fix.zero).At) ((c.Fixes[r6.toNat]?.getD Fix.zero).At))) (fun w hM => run_eql (b := P.eqb ((c.Fixes[r4.toNat]?.getD Fix.zero).At) ((c.Fixes[r6.toNat]?.getD Fix.zero).At)) Kr Kr w) rfl {} (TQ.r 25 [] [(65, .b (P.eqb ((c.Fixes[r4.toNat]?.getD Fix.zero).At) ((c.Fixes[r6.toNat]?.getD Fix.zero).At)))] {} (TQ.next rfl (TC.cond (P.eqb ((c.Fixes[r4.toNat]?.getD Fix.zero).At) ((c.Fixes[r6.toNat]?.getD Fix.zero).At)) rfl Kr (fun h9 => ?_) (fun h9 => ?_))))))))))))))))
                    · refine TC.sr (TL.r 1 [] [(4, .i 10)] {} (TL.next rfl (TC.ret (TE.rb (TE.rb (TE.rt (TE.rt (TE.rb (TE.rt (TE.rt ?_))))))))))
                      exact TE.ret [] (.i 10) {} (by unfold chart_checkAirway; refine eS (fun z => (.i z : Value)) ?_; subst hr1 hr2 hr3 hr4 hr5 hr6; exact cond_f h1 (cond_f h2 (cond_f h3 (cond_f h4 (elim_r (hR.symm.trans (hI.trans (by rw [hd]; exact cond_f h6 (cond_f h7 (cond_t h8 (cond_t h9 (rfl))))))) rfl)))))
                    · exact TC.skip (TE.nb (TE.nb (TE.next (TC.region (TL.r 2 [] [(47, .i (w64 ((k : Int) + 1)))] {} (TL.done rfl (TE.rw 47 (.i (w64 ((k : Int) + 1))) (.i ((k + 1 : Nat) : Int)) Kr (w64_cast k (by (try have kn_ := ix_lt hr4); (try have kn6_ := ix_lt hr6); (try have kp_ := ix_pos hl_ix hr6 (by omega)); omega)) (TE.again (x := k) (k + 1) ⟨by omega, hI.trans (by subst hr1 hr2 hr3 hr4 hr5 hr6; rw [hd]; exact cond_f h6 (cond_f h7 (cond_t h8 (cond_f h9 (rfl))))), (ix_step hl_ix hx hr4 ‹_›)⟩ (mN hlt) Kr (sb 3)))))))))
                  · have q8_0 := (dec_f h8)
                    exact TQ.r 25 [] [(65, .b false)] {} (TQ.next rfl (TC.condF rfl Kr (TC.skip (TE.nb (TE.nb (TE.next (TC.region (TL.r 2 [] [(47, .i (w64 ((k : Int) + 1)))] {} (TL.done rfl (TE.rw 47 (.i (w64 ((k : Int) + 1))) (.i ((k + 1 : Nat) : Int)) Kr (w64_cast k (by (try have kn_ := ix_lt hr4); (try have kn6_ := ix_lt hr6); (try have kp_ := ix_pos hl_ix hr6 (by omega)); omega)) (TE.again (x := k) (k + 1) ⟨by omega, hI.trans (by subst hr1 hr2 hr3 hr4 hr5; rw [hd]; exact cond_f h6 (cond_f h7 (cond_f h8 (rfl)))), (ix_step hl_ix hx hr4 ‹_›)⟩ (mN hlt) Kr (sb 3))))))))))))
            · have hd : ((c.Airways[i.toNat]?.getD Airway.zero).Fixes).drop k = [] := List.drop_eq_nil_of_le (by have := of_decide_eq_false h5; first | omega | (simp at this; omega))
              refine TC.exit (TE.et (TE.et (TE.exit_same ?_)))
              exact TE.cut () (hI.trans (by subst hr1 hr2 hr3; rw [hd]; exact rfl)) Kr (sb 0)
          · intro _ hJ
            exact TE.nr (TL.r 1 [] [(4, .i 0)] {} (TL.next rfl (TC.ret (TE.ret [] (.i 0) {} (by unfold chart_checkAirway; refine eS (fun z => (.i z : Value)) ?_; subst hr1 hr2 hr3; exact cond_f h1 (cond_f h2 (cond_f h3 (cond_f h4 (elim_l (hR.symm.trans hJ) (rfl))))))))))
def chart_Check_L1 (c : Chart) : List Fix → Nat → ((Unit) ⊕ (Int))
  | [], _ => .inl ()
  | x :: xs, k => let r1 := chart_Name x.Name
    cond (!r1) (
      .inr 5) (
      let r2 := chart_index c x.Name
      cond (decide (r2 < (k : Int))) (
        .inr 7) (
        let r3 := plane_Check x.At
        cond (r3 != 0) (
          .inr r3) (
          chart_Check_L1 c xs (k + 1))))
def chart_Check_L2 (c : Chart) : Nat → Nat → ((Unit) ⊕ (Int))
  | 0, _ => .inl ()
  | m + 1, k_2 => let r4 := chart_checkAirway c (k_2 : Int)
    cond (r4 != 0) (
      .inr r4) (
      chart_Check_L2 c m (k_2 + 1))
def chart_Check (c : Chart) : Int :=
  cond ((decide ((c.Fixes.length : Int) > 64)) || (decide ((c.Airways.length : Int) > 16))) (
    2) (
    Sum.elim (fun _ =>
      Sum.elim (fun _ =>
        0) (fun r => r) (chart_Check_L2 c c.Airways.length 0)) (fun r => r) (chart_Check_L1 c c.Fixes 0))
set_option maxRecDepth 100000 in
theorem chart_Check_w (c : Chart) (A_c_Fixes : Option Addr) (c_c_Fixes : Nat) (A_c_Airways : Option Addr) (c_c_Airways : Nat) (o_c_Airways : List (AirwayR)) (w : World) (h_c_Fixes : Rd w 3 A_c_Fixes (c.Fixes.map Fix.c)) (hc_c_Fixes : c.Fixes.length ≤ c_c_Fixes) (h_c_Airways : Rd w 2 A_c_Airways (o_c_Airways.map AirwayR.c)) (hc_c_Airways : c.Airways.length ≤ c_c_Airways) (hd_c_Airways : ∀ s ∈ (o_c_Airways.map AirwayR.Fixes), s.rd w 1 sc) (_he_c_Airways : c.Airways = o_c_Airways.map AirwayR.p) : Calls Try.prog 5 #[.agg #[.slice A_c_Fixes c.Fixes.length c_c_Fixes, .slice A_c_Airways c.Airways.length c_c_Airways]] w (Ret w (.int .i64 (chart_Check c))) := by
  have s_c_Fixes := h_c_Fixes.short; rw [List.length_map] at s_c_Fixes
  have s_c_Airways := h_c_Airways.short; rw [← dl_len _he_c_Airways] at s_c_Airways
  refine calls_intro (vs := [.agg #[.slice A_c_Fixes c.Fixes.length c_c_Fixes, .slice A_c_Airways c.Airways.length c_c_Airways]]) (w := w) Try.func5 rfl Try.ntmps5 rfl (TC.sr (TL.nw 1 (fun b1 => .p0 b1) (fun b1 => Bk b1 #[.slice A_c_Fixes c.Fixes.length c_c_Fixes, .slice A_c_Airways c.Airways.length c_c_Airways] 25) (fun b1 => {}) (fun b1 => TL.r 2 [] [(2, .i 0)] {} (TL.ns (TC.sr (TL.r 5 [0] [(12, .b (decide ((c.Fixes.length : Int) > 64)))] {} (TL.j 12 (decide ((c.Fixes.length : Int) > 64)) 10 [] [0] (fun β => [(17, .b (β || (decide ((c.Airways.length : Int) > 16))))]) Kr {} {} (TL.next rfl (TC.cond ((decide ((c.Fixes.length : Int) > 64)) || (decide ((c.Airways.length : Int) > 16))) rfl Kr (fun h1 => ?_) (fun h1 => ?_))))))))))
  · exact TC.sr (TL.r 1 [] [(2, .i 2)] {} (TL.next rfl (TC.ret (TE.rt (TE.ret [] (.i 2) {} (by unfold chart_Check; refine eS (fun z => (.i z : Value)) ?_; exact cond_t h1 (rfl)))))))
  · have q1_0 := (dec_f (or_f1 h1))
    have q1_1 := (dec_f (or_f2 h1))
    refine TC.sn (TC.seq (TC.sr (TL.r 4 [0] [(19, .slice A_c_Fixes c.Fixes.length c_c_Fixes), (20, .i (c.Fixes.length : Int)), (21, .i 0)] {} (TL.next rfl ?_))))
    obtain ⟨R1, hR⟩ : ∃ R, R = chart_Check_L1 c c.Fixes 0 := ⟨_, rfl⟩
    refine TC.cut (S := Unit) (fun (_ : Unit) => [(1, .p0 b1)]) (fun (_ : Unit) => [Bk b1 #[.slice A_c_Fixes c.Fixes.length c_c_Fixes, .slice A_c_Airways c.Airways.length c_c_Airways] 25]) (fun (_ : Unit) => R1 = .inl ()) ?_ ?_
    · refine TC.block (TC.lw (X := Nat) (fun k => [(1, .p0 b1), (19, .slice A_c_Fixes c.Fixes.length c_c_Fixes), (20, .i (c.Fixes.length : Int)), (21, .i (k : Int))]) (fun k => [Bk b1 #[.slice A_c_Fixes c.Fixes.length c_c_Fixes, .slice A_c_Airways c.Airways.length c_c_Airways] 25]) (fun k => c.Fixes.length - k) (fun k => k ≤ c.Fixes.length ∧ R1 = chart_Check_L1 c (c.Fixes.drop k) k) ?_ 0 ⟨Nat.zero_le _, hR⟩ Kr (sb 1))
      rintro k ⟨hk, hI⟩
      refine TC.sr (TL.r 1 [] [(22, .b (decide ((k : Int) < (c.Fixes.length : Int))))] {} (TL.ns (TC.cond (decide ((k : Int) < (c.Fixes.length : Int))) rfl Kr (fun h2 => ?_) (fun h2 => ?_))))
      · have hlt := ltN h2
        obtain ⟨x, hx⟩ := elN hlt
        have hd := drop_at hx
        refine TC.sn (TC.seq (TC.block (TC.sr (TL.r 1 [] [(23, .i (k : Int))] {} (TL.v (sV (Instr.indexAt 22 (.slice A_c_Fixes c.Fixes.length c_c_Fixes) (.i (k : Int)))) 24 (.pointer (some (Ix A_c_Fixes (k * 3)))) (fun w hM => run_index (h_c_Fixes.sat hM) (by simp) Kr sd sd) {} (TL.v (sV (Instr.loadAt 35 (.pointer (some (Ix A_c_Fixes (k * 3)))))) 25 (Fix.v x) (fun w hM => run_load_agg (n := 3) (off := 0) (i := k) (Fix.v x) (h_c_Fixes.sat hM) (map_at hx) Kr Kr Kr) {} (TL.nw 4 (fun b2 => .p0 b2) (fun b2 => Bk b2 (Fix.c Fix.zero) 35) (fun b2 => {}) (fun b2 => TL.r 5 [] [(3, .i (k : Int))] {} (TL.s 0 (Bk b2 (Fix.c x) 35) (fun _ => {}) (TL.ns (TC.sr (TL.r 2 [0] [(27, .string x.Name)] {} (TL.c 28 (chart_Name x.Name) (fun r1 => .b r1) (fun w _ => chart_Name_w x.Name w) {} (fun r1 hr1 => TL.r 4 [] [(29, .b (!r1))] {} (TL.next rfl (TC.cond (!r1) rfl Kr (fun h3 => ?_) (fun h3 => ?_)))))))))))))))))
        · refine TC.sr (TL.r 1 [] [(2, .i 5)] {} (TL.next rfl (TC.ret (TE.rt (TE.rb (TE.rt (TE.rt (TE.rb (TE.rt (TE.rt ?_))))))))))
          exact TE.ret [] (.i 5) {} (by unfold chart_Check; refine eS (fun z => (.i z : Value)) ?_; subst hr1; exact cond_f h1 (elim_r (hR.symm.trans (hI.trans (by rw [hd]; exact cond_t h3 (rfl)))) rfl))
        · refine TC.sn (TC.seq (TC.sr (TL.r 3 [1, 0] [(30, .agg #[.slice A_c_Fixes c.Fixes.length c_c_Fixes, .slice A_c_Airways c.Airways.length c_c_Airways]), (32, .string x.Name)] {} (TL.c 33 (chart_index c x.Name) (fun r2 => .i r2) (fun w hM => chart_index_w c A_c_Fixes c_c_Fixes A_c_Airways c_c_Airways o_c_Airways x.Name w (h_c_Fixes.sat hM) hc_c_Fixes (h_c_Airways.sat hM) hc_c_Airways (fun s hs => (hd_c_Airways s hs).sat hM) _he_c_Airways) {} (fun r2 hr2 => TL.r 6 [] [(35, .b (decide (r2 < (k : Int))))] {} (TL.next rfl (TC.cond (decide (r2 < (k : Int))) rfl Kr (fun h4 => ?_) (fun h4 => ?_))))))))
          · refine TC.sr (TL.r 1 [] [(2, .i 7)] {} (TL.next rfl (TC.ret (TE.rt (TE.rb (TE.rt (TE.rt (TE.rb (TE.rt (TE.rt ?_))))))))))
            exact TE.ret [] (.i 7) {} (by unfold chart_Check; refine eS (fun z => (.i z : Value)) ?_; subst hr1 hr2; exact cond_f h1 (elim_r (hR.symm.trans (hI.trans (by rw [hd]; exact cond_f h3 (cond_t h4 (rfl))))) rfl))
          · have q4_0 := (dec_f h4)
            refine TC.snr (TL.r 2 [0] [(37, P.v x.At)] {} (TL.c 38 (plane_Check x.At) (fun r3 => .i r3) (fun w _ => plane_Check_w x.At w) {} (fun r3 hr3 => TL.r 4 [] [(5, .i r3)] {} (TL.nr (TL.r 2 [] [(40, .b (r3 != 0))] {} (TL.next rfl (TC.cond (r3 != 0) rfl Kr (fun h5 => ?_) (fun h5 => ?_))))))))
            · refine TC.sr (TL.r 2 [] [(2, .i r3)] {} (TL.next rfl (TC.ret (TE.rb (TE.rt (TE.rt (TE.rb (TE.rt (TE.rt ?_)))))))))
              exact TE.ret [] (.i r3) {} (by unfold chart_Check; refine eS (fun z => (.i z : Value)) ?_; subst hr1 hr2 hr3; exact cond_f h1 (elim_r (hR.symm.trans (hI.trans (by rw [hd]; exact cond_f h3 (cond_f h4 (cond_t h5 (rfl)))))) rfl))
            · have q5_0 := (bne_f h5)
              exact TC.skip (TE.nb (TE.next (TC.region (TL.r 2 [] [(21, .i (w64 ((k : Int) + 1)))] {} (TL.done rfl (TE.rw 21 (.i (w64 ((k : Int) + 1))) (.i ((k + 1 : Nat) : Int)) Kr (w64_cast k (by omega)) (TE.again (x := k) (k + 1) ⟨by omega, hI.trans (by subst hr1 hr2 hr3; rw [hd]; exact cond_f h3 (cond_f h4 (cond_f h5 (rfl))))⟩ (mN hlt) Kr (sb 2))))))))
      · have hd := dropN h2
        refine TC.exit (TE.et (TE.et (TE.exit_same ?_)))
        exact TE.cut () (hI.trans (by rw [hd]; exact rfl)) Kr (sb 1)
    · intro _ hJ
      refine TE.next (TC.seq (TC.sr (TL.r 4 [0] [(45, .i (c.Airways.length : Int)), (46, .i 0)] {} (TL.next rfl ?_))))
      obtain ⟨R2, hR_2⟩ : ∃ R, R = chart_Check_L2 c c.Airways.length 0 := ⟨_, rfl⟩
      refine TC.cut (S := Unit) (fun (_ : Unit) => []) (fun (_ : Unit) => []) (fun (_ : Unit) => R2 = .inl ()) ?_ ?_
      · refine TC.block (TC.lw (X := Nat) (fun k_2 => [(1, .p0 b1), (45, .i (c.Airways.length : Int)), (46, .i (k_2 : Int))]) (fun k_2 => [Bk b1 #[.slice A_c_Fixes c.Fixes.length c_c_Fixes, .slice A_c_Airways c.Airways.length c_c_Airways] 25]) (fun k_2 => c.Airways.length - k_2) (fun k_2 => k_2 ≤ c.Airways.length ∧ R2 = chart_Check_L2 c (c.Airways.length - k_2) k_2) ?_ 0 ⟨Nat.zero_le _, hR_2⟩ Kr (sb 1))
        rintro k_2 ⟨hk_2, hI_2⟩
        refine TC.sr (TL.r 1 [] [(47, .b (decide ((k_2 : Int) < (c.Airways.length : Int))))] {} (TL.ns (TC.cond (decide ((k_2 : Int) < (c.Airways.length : Int))) rfl Kr (fun h6 => ?_) (fun h6 => ?_))))
        · have hlt_2 : k_2 < c.Airways.length := by have := of_decide_eq_true h6; first | omega | (simp at this; omega)
          have hd_2 : c.Airways.length - k_2 = (c.Airways.length - (k_2 + 1)) + 1 := by omega
          refine TC.sn (TC.seq (TC.block (TC.sr (TL.r 2 [] [(6, .i (k_2 : Int))] {} (TL.nr (TL.r 2 [0] [(49, .agg #[.slice A_c_Fixes c.Fixes.length c_c_Fixes, .slice A_c_Airways c.Airways.length c_c_Airways]), (50, .i (k_2 : Int))] {} (TL.c 51 (chart_checkAirway c (k_2 : Int)) (fun r4 => .i r4) (fun w hM => chart_checkAirway_w c A_c_Fixes c_c_Fixes A_c_Airways c_c_Airways o_c_Airways (k_2 : Int) w (h_c_Fixes.sat hM) hc_c_Fixes (h_c_Airways.sat hM) hc_c_Airways (fun s hs => (hd_c_Airways s hs).sat hM) _he_c_Airways sg) {} (fun r4 hr4 => TL.r 4 [] [(7, .i r4)] {} (TL.nr (TL.r 2 [] [(53, .b (r4 != 0))] {} (TL.next rfl (TC.cond (r4 != 0) rfl Kr (fun h7 => ?_) (fun h7 => ?_)))))))))))))
          · refine TC.sr (TL.r 2 [] [(2, .i r4)] {} (TL.next rfl (TC.ret (TE.rb (TE.rt (TE.rt (TE.rb (TE.rt (TE.rt ?_)))))))))
            exact TE.ret [] (.i r4) {} (by unfold chart_Check; refine eS (fun z => (.i z : Value)) ?_; subst hr4; exact cond_f h1 (elim_l (hR.symm.trans hJ) (elim_r (hR_2.symm.trans (hI_2.trans (by rw [hd_2]; exact cond_t h7 (rfl)))) rfl)))
          · have q7_0 := (bne_f h7)
            exact TC.skip (TE.nb (TE.next (TC.region (TL.r 2 [] [(46, .i (w64 ((k_2 : Int) + 1)))] {} (TL.done rfl (TE.rw 46 (.i (w64 ((k_2 : Int) + 1))) (.i ((k_2 + 1 : Nat) : Int)) Kr (w64_cast k_2 (by omega)) (TE.again (x := k_2) (k_2 + 1) ⟨by omega, hI_2.trans (by subst hr4; rw [hd_2]; exact cond_f h7 (rfl))⟩ (mN hlt_2) Kr (sb 1))))))))
        · have hd_2 : c.Airways.length - k_2 = 0 := by have := of_decide_eq_false h6; first | omega | (simp at this; omega)
          refine TC.exit (TE.et (TE.et (TE.exit_same ?_)))
          exact TE.cut () (hI_2.trans (by rw [hd_2]; exact rfl)) Kr (sb 0)
      · intro _ hJ_2
        exact TE.nr (TL.r 1 [] [(2, .i 0)] {} (TL.next rfl (TC.ret (TE.ret [] (.i 0) {} (by unfold chart_Check; refine eS (fun z => (.i z : Value)) ?_; exact cond_f h1 (elim_l (hR.symm.trans hJ) (elim_l (hR_2.symm.trans hJ_2) (rfl))))))))
end Go.Sky
end
section
namespace Go.Eng
def cpy {α : Type} (l : List α) (o : Nat) (s : List α) : List α := l.take o ++ (s.take (l.length - o) ++ l.drop (o + s.length))
theorem cpy_length {α : Type} {l s : List α} {o : Nat} (ho : o ≤ l.length) : (cpy l o s).length = l.length := by
  unfold cpy
  simp only [List.length_append, List.length_take, List.length_drop]
  omega
theorem flat_one {α : Type} {c : α → Array Value} (h : ∀ x, (c x).size = 1) (l : List α) : (flat (l.map c)).length = l.length := by
  rw [flat_length (sz := 1) _ (fun r hr => by obtain ⟨x, _, rfl⟩ := List.mem_map.1 hr; exact h x), List.length_map, Nat.mul_one]
theorem flat_take1 {α : Type} {c : α → Array Value} (h : ∀ x, (c x).size = 1) (l : List α) (n : Nat) : (flat (l.map c)).take n = flat ((l.take n).map c) := by
  have := flat_take (sz := 1) (l.map c) n (fun r hr => by obtain ⟨x, _, rfl⟩ := List.mem_map.1 hr; exact h x)
  rw [Nat.mul_one] at this
  rw [this, List.map_take]
theorem flat_drop1 {α : Type} {c : α → Array Value} (h : ∀ x, (c x).size = 1) (l : List α) (n : Nat) : (flat (l.map c)).drop n = flat ((l.drop n).map c) := by
  have e1 := flat_take1 h l n
  have e2 : flat (l.map c) = flat ((l.take n).map c) ++ flat ((l.drop n).map c) := by rw [← flat_append, ← List.map_append, List.take_append_drop]
  have e3 : (flat ((l.take n).map c)).length = min n l.length := by rw [flat_one h, List.length_take]
  rcases Nat.le_total n l.length with hn | hn
  · rw [e2, List.drop_append, List.drop_of_length_le (by omega), e3, Nat.min_eq_left hn, Nat.sub_self]
    rfl
  · rw [List.drop_of_length_le (by rw [flat_one h]; exact hn), List.drop_of_length_le hn]
    rfl
theorem addr_zero (A : Option Addr) : A.map (fun a => a.add 0) = A := by
  cases A with
  | none => rfl
  | some a => show some (a.add 0) = some a; rw [show a.add 0 = a by unfold Addr.add; split <;> simp_all]
theorem copy_own {α : Type} {c : α → Array Value} {P : Program} {w0 : Ctx} {M : Mem} {t ty e cap dc sc o : Nat} {A Ad B : Option Addr} {l s : List α} (j : Nat) (hj : M[j]? = some (.inr (Own A cap e 1 (l.map c)))) (hA : Ad = if cap = o then A else A.map (fun a => a.add (o * 1)))
    (h1 : ∀ x, (c x).toList.all Value.oneCell' = true) (hc1 : ∀ x, (c x).size = 1) (hu : P.underlying t = some (.slice e)) (hs1 : (P.info? e).map (·.size) = some 1) (ho : o < l.length) (hs0 : 0 < s.length)
    (hr : ∀ w, Sat w0 M w → Rd w 1 B (s.map c)) (w : World) (hM : Sat w0 M w) :
    ∃ (_ : Unit) (w' : World), (sV (Builtin.copy_ #[t, t] ty #[.slice Ad (l.drop o).length dc, .slice B s.length sc])).run P w = .ok (.value (.int .i64 ((min (l.drop o).length s.length : Nat) : Int))) w' ∧ Sat w0 (M.set j (.inr (Own A cap e 1 ((cpy l o s).map c)))) w' := by
  have hR := hr w hM
  rcases hM.own_at j hj with ⟨_, h0⟩ | ⟨g, cur, h⟩
  · rw [List.map_eq_nil_iff.1 h0] at ho; exact absurd ho (Nat.not_lt_zero _)
  have hat := h.at_
  subst hat
  have hle : l.length ≤ cap := by have := h.le; rwa [List.length_map] at this
  rw [if_neg (by omega)] at hA
  have hAd : Ad = some ⟨g, o, none⟩ := by
    rw [hA]
    show some ((⟨g, 0, none⟩ : Addr).add (o * 1)) = _
    rw [Nat.mul_one, add_zero_addr]
  subst hAd
  obtain ⟨b, rfl⟩ : ∃ b, B = some b := by
    have h2 : (s.map c)[0]? = some (c s[0]) := by rw [List.getElem?_map, List.getElem?_eq_getElem hs0]; rfl
    obtain ⟨_, ad, h3, _⟩ := hR.row 0 _ h2
    exact ⟨ad, h3⟩
  obtain ⟨k, hk⟩ : ∃ k, k = min (l.drop o).length s.length := ⟨_, rfl⟩
  have hk2 : k = min (l.length - o) s.length := by rw [hk, List.length_drop]
  obtain ⟨cs, hcs⟩ : ∃ cs, cs = flat ((s.take k).map c) := ⟨_, rfl⟩
  have hcl : cs.length = k := by rw [hcs, flat_one hc1, List.length_take]; omega
  have hsize : cur.size = cap := by have := h.size; omega
  have hcells : ∀ v ∈ cs, v.oneCell' = true := fun v hv => by
    rw [hcs] at hv
    unfold flat at hv
    obtain ⟨r, hr, hv⟩ := List.mem_flatten.1 hv
    obtain ⟨r', hr', rfl⟩ := List.mem_map.1 hr
    obtain ⟨x, _, rfl⟩ := List.mem_map.1 hr'
    exact List.all_eq_true.1 (h1 x) v hv
  have hsrc : ∀ i v, cs[i]? = some v → w.cell? (b.add i) = some v := fun i v hi => by
    have h2 : (flat (s.map c))[i]? = some v := by
      rw [hcs, ← flat_take1 hc1, List.getElem?_take] at hi
      split at hi
      · exact hi
      · cases hi
    exact hR.flat Nat.one_pos i v h2
  have hrun := run_copy_row (P := P) w t t ty e g o (l.drop o).length dc b s.length sc cur e cs hu hs1 h.heap (by rw [hcl, hk]; exact Nat.min_comm _ _) hsrc (by omega) hcells
  refine ⟨(), w.setRow g (cur.toList.take o ++ cs ++ cur.toList.drop (o + cs.length)).toArray, by rw [← hk, ← hcl]; exact run_sVw hrun, hM.step hj ⟨rfl, rfl, rfl, by simp [World.setRow], fun q _ hq => setRow_other w g q _ (fun e => hq ⟨h.pos, _, rfl, e.symm⟩), Nat.le_refl _⟩ ?_ (fun b hb => .inl hb)⟩
  have hlen : (cpy l o s).length = l.length := cpy_length (Nat.le_of_lt ho)
  refine .inr ⟨g, _, rfl, h.pos, setRow_heap w g cur _ e _ h.heap, by rw [List.length_map, hlen]; exact hle, h.max, ?_, ?_, ?_, by rw [List.length_map, hlen]; have := h.short; rwa [List.length_map] at this⟩
  · simp only [List.size_toArray, List.length_append, List.length_take, List.length_drop, Array.length_toList, hcl]
    omega
  · have hh : cur.toList.take l.length = flat (l.map c) := by have := h.holds; rwa [Nat.mul_one, List.length_map] at this
    have e1 : cur.toList.take o = flat ((l.take o).map c) := by rw [← flat_take1 hc1, ← hh, List.take_take, Nat.min_eq_left (by omega)]
    have e2 : (cur.toList.drop (o + k)).take (l.length - (o + k)) = flat ((l.drop (o + k)).map c) := by rw [← flat_drop1 hc1, ← hh, List.drop_take]
    have hct : cur.toList.length = cap := by rw [Array.length_toList]; exact hsize
    have ecp : cpy l o s = l.take o ++ (s.take k ++ l.drop (o + k)) := by
      unfold cpy
      congr 2
      · rw [hk2, List.take_eq_take_iff]; omega
      · rcases Nat.le_total s.length (l.length - o) with q | q
        · rw [hk2, Nat.min_eq_right q]
        · rw [List.drop_of_length_le (by omega), List.drop_of_length_le (by omega)]
    rw [List.length_map, hlen, Nat.mul_one, ecp, List.map_append, List.map_append, flat_append, flat_append, ← e1, ← hcs, ← e2, hcl]
    show ((cur.toList.take o ++ cs) ++ cur.toList.drop (o + k)).take l.length = _
    rw [List.take_append, List.take_of_length_le (by simp only [List.length_append, List.length_take, hct, hcl]; omega), List.append_assoc]
    congr 3
    simp only [List.length_append, List.length_take, hct, hcl]
    omega
  · intro r hr
    obtain ⟨x, _, rfl⟩ := List.mem_map.1 hr
    exact hc1 x
end Go.Eng
end
section
namespace Go.Eng
theorem mS1 {S : Nat → Bool} {a0 : Nat} {x0 : Bool} (h0 : S a0 = x0) : List.map S [a0] = [x0] := by subst h0; rfl
section
variable {G : Type} {P : Program} {n : Nat} {w0 : Ctx} {ops : Array Oper} {base : Slots} {vals : G → List Value} {writes : List Nat} {mem : List Bool → G → Mem}
end
end Go.Eng
namespace Go.Eng
section
variable {G : Type} {P : Program} {n : Nat} {w0 : Ctx} {ops : Array Oper} {base : Slots} {vals : G → List Value} {writes : List Nat} {mem : List Bool → G → Mem}
theorem Steps.opL {Γ : Type} (set : Γ → G → G) (E : G → Mem) (E' : Γ → G → Mem) (X : (Nat → Bool) → G → Mem) (D : List Nat) (s : G → Sem Next) (d : Option Tmp) (v : Γ → G → Value) {i : Nat}
    (hpre : ∀ S γ, S i = false → (∀ e : Nat, (aftAt ops.toList i).contains e = true → S e = true) → (∀ k : Nat, (aftAt ops.toList k).contains i = true → S k = false) → (mem (writes.map S) γ).Perm (E γ ++ X S γ))
    (hpost : ∀ S γ g, S i = false → (∀ e : Nat, (aftAt ops.toList i).contains e = true → S e = true) → (∀ k : Nat, (aftAt ops.toList k).contains i = true → S k = false) → (E' g γ ++ X S γ).Perm (mem (writes.map (upS S i)) (set g γ)))
    (hv : ∀ γ M' w, Sat w0 (E γ ++ M') w → ∃ g w', (s γ).run P w = .ok (.value (v g γ)) w' ∧ Sat w0 (E' g γ ++ M') w')
    (hs : ∀ γ, semAt ops.toList (allS ops.toList base (vals γ)) i = some (s γ, d)) (hval : ∀ γ g, (vals (set g γ))[i]? = some (v g γ))
    (hD : depB ops.toList i D = true) (hmask : ∀ γ g, maskL D 0 (vals (set g γ)) = maskL D 0 (vals γ))
    (h : Steps P w0 ops base vals writes mem (ops.toList.drop (i + 1)) (i + 1)) : Steps P w0 ops base vals writes mem (ops.toList.drop i) i := by
  refine Steps.cons_of (fun o ho S γ w hSi hd hc hMw => ?_) h
  obtain ⟨o', h1, h2, h3, h4⟩ := semAt_get (hs γ)
  rw [ho] at h1
  simp only [Option.some.injEq] at h1
  subst h1
  have hd' : ∀ e : Nat, (aftAt ops.toList i).contains e = true → S e = true := fun e he => hd e (by unfold aftAt at he; rw [ho] at he; simpa using he)
  rw [h2]
  simp only
  unfold GivesK
  obtain ⟨g, w', hr, hM'⟩ := hv γ _ w (hMw.perm (hpre S γ hSi hd' (later_of hSi hc)))
  rw [h3, hr]
  exact ⟨set g γ, agree hD hSi hc (hmask γ g), hval γ g, hM'.perm (hpost S γ g hSi hd' (later_of hSi hc))⟩
end
end Go.Eng
namespace Go.Eng
def QT (Q : Exit → Act → World → Prop) (K : Act → World → Prop) : Exit → Act → World → Prop
  | .normal, a, w => K a w
  | e, a, w => Q e a w
section
variable {P : Program} {ops hd : Array Oper} {Q : Exit → Act → World → Prop} {N : Nat}
theorem wp_QT {o : Oper} {a : Act} {w : World} {K : Act → World → Prop} {X X' : Act → World → Prop} (h : ∀ a w, X a w → X' a w) (hh : o.wp P a w X (QT Q K)) : o.wp P a w X' Q := by
  unfold Oper.wp at *
  generalize (execOp a.eval o).run P w = r at *
  cases r with
  | ok n w' =>
    cases n <;> simp only [Oper.upon] at hh ⊢ <;>
      first
        | exact h _ _ hh
        | exact Calls.mono hh (fun e w'' he => by cases e <;> first | exact h _ _ he | exact he)
        | exact Rows.mono hh (fun _ _ he => h _ _ he)
  | halt x w' => cases x <;> simp only [Oper.upon] at hh ⊢ <;> exact hh
theorem any_more (k : Nat) : ∀ (f : Nat) (l : Array Bool) (a : Act) (w : World), wpAny P .any ops Q f l a w → wpAny P .any ops Q (f + k) l a w
  | 0, l, a, w, h => by
    cases k with
    | zero => exact h
    | succ k => rw [Nat.zero_add]; exact ⟨fun _ => h.2, fun i hi => by rw [h.1] at hi; cases hi⟩
  | f + 1, l, a, w, h => by
    rw [show f + 1 + k = f + k + 1 by omega]
    exact ⟨h.1, fun i hi => wpOp_mono (fun a w h' => any_more k f _ a w h') (h.2 i hi)⟩
def guardsB (N : Nat) (l : List Oper) : Bool := l.all fun o => match o.guard with | some (g, _) => Nat.blt g N | none => true
def lowB (l : List Oper) : Bool := (List.range l.length).all fun j => (aftAt l j).all fun e => Nat.blt e j
def firstN (N m : Nat) : Array Bool := (List.replicate N true ++ List.replicate m false).toArray
def waitB (ops : Array Oper) (N : Nat) : Bool := (List.range ops.size).all fun t => Nat.ble t N || (List.range t).any fun j => Nat.ble N j && Region.waitsFor .any ops t j
theorem tail_waits' {n : Nat} {listed : Array Bool} (hs : Region.sinkB .any ops n = true) (hc : waitB ops n = true) (inv : HeadInv .any ops n listed) :
    ∀ (d i : Nat), n - i = d → i < n → listed.getD i true = false → ∀ t, n ≤ t → t ∉ Region.ready .any ops listed := by
  intro d
  induction d using Nat.strongRecOn with
  | _ d ih =>
    intro i hd hi hun t ht hr
    obtain ⟨_, ot, hot, hall⟩ := mem_ready.1 hr
    have htlt : t < ops.size := (Array.getElem?_eq_some_iff.1 hot).1
    by_cases htn : t = n
    · subst htn
      have h1 := List.all_eq_true.1 hs i (List.mem_range.2 hi)
      obtain ⟨j, hj, hj2⟩ := List.any_eq_true.1 h1
      simp only [Bool.and_eq_true, decide_eq_true_eq] at hj2
      obtain ⟨oj, hoj, e, he, hb, hon⟩ := Region.waitsFor_spec hj2.2
      have hjle : j ≤ t := by have := List.mem_range.1 hj; omega
      by_cases hjt : j = t
      · subst hjt
        have : oj = ot := Option.some.inj (hoj.symm.trans hot)
        subst this
        have h2 := hall e he hb
        rw [hon, getD_both hun] at h2
        cases h2
      · cases hl : listed.getD j false with
        | true =>
          have h2 := inv.closed j oj hoj hl e he hb
          rw [hon, getD_both hun] at h2
          cases h2
        | false =>
          have hjs : j < listed.size := by rw [inv.size]; omega
          exact ih (t - j) (by omega) j rfl (by omega) (getD_in hjs hl) t (Nat.le_refl _) hr
    · have h1 := List.all_eq_true.1 hc t (List.mem_range.2 htlt)
      simp only [Bool.or_eq_true] at h1
      rcases h1 with h1 | h1
      · have := Nat.le_of_ble_eq_true h1; omega
      · obtain ⟨j, hj, hj2⟩ := List.any_eq_true.1 h1
        simp only [Bool.and_eq_true] at hj2
        have hnj := Nat.le_of_ble_eq_true hj2.1
        have hjt := List.mem_range.1 hj
        obtain ⟨o', ho', e, he, hb, hon⟩ := Region.waitsFor_spec hj2.2
        have : o' = ot := Option.some.inj (ho'.symm.trans hot)
        subst this
        have h2 := hall e he hb
        rw [hon, getD_both (inv.tail j hnj (by omega))] at h2
        cases h2
theorem any_head (he : hd.toList = ops.toList.take N) (hn : N < ops.size) (hs : Region.sinkB .any ops N = true) (hc : waitB ops N = true) (hg : guardsB N hd.toList = true) (ho : lowB hd.toList = true)
    {K : Act → World → Prop} (hK : ∀ a w, K a w → wpAny P .any ops Q (ops.size - N) (firstN N (ops.size - N)) a w) :
    ∀ (f : Nat) (l l' : Array Bool) (a : Act) (w : World), HeadInv .any ops N l → l'.size = N → (∀ i d, i < N → l'.getD i d = l.getD i d) →
      wpAny P .any hd (QT Q K) f l' a w → wpAny P .any ops Q (f + (ops.size - N)) l a w := by
  have hsz : hd.size = N := by rw [← Array.length_toList, he, List.length_take, Array.length_toList]; omega
  have hat : ∀ i, i < N → hd[i]? = ops[i]? := fun i hi => by
    rw [← Array.getElem?_toList, ← Array.getElem?_toList, he, List.getElem?_take_of_lt hi]
  have hlow : ∀ i o, hd[i]? = some o → ∀ e ∈ o.after, Region.binds .any e = true → e.on < i := fun i o hi e he' hb => by
    have hi' : hd.toList[i]? = some o := by simpa using hi
    have := List.all_eq_true.1 ho i (List.mem_range.2 (List.getElem?_eq_some_iff.1 hi').1)
    unfold aftAt at this
    rw [hi'] at this
    exact Nat.le_of_ble_eq_true (List.all_eq_true.1 this e.on (List.mem_map.2 ⟨e, List.mem_filter.2 ⟨by simpa using he', hb⟩, rfl⟩))
  have fin : ∀ (l l' : Array Bool) (a : Act) (w : World), HeadInv .any ops N l → l'.size = N → (∀ i d, i < N → l'.getD i d = l.getD i d) → Region.ready .any hd l' = [] →
      K a w → wpAny P .any ops Q (ops.size - N) l a w := by
    intro l l' a w inv h1 h2 h3 h4
    have all : ∀ i, i < N → l.getD i false = true := by
      intro i
      induction i using Nat.strongRecOn with
      | _ i ih =>
        intro hi
        cases hl : l.getD i false with
        | true => rfl
        | false =>
          exfalso
          have hr : i ∈ Region.ready .any hd l' := mem_ready.2 ⟨by rw [h2 i true hi]; exact getD_in (by rw [inv.size]; omega) hl, _, Array.getElem?_eq_getElem (by omega), fun e he' hb => by
            have := hlow i _ (Array.getElem?_eq_getElem (by omega)) e he' hb
            rw [h2 _ _ (by omega)]; exact ih _ this (by omega)⟩
          rw [h3] at hr; cases hr
    have hl : l = firstN N (ops.size - N) := by
      apply Array.ext_getElem?
      intro i
      unfold firstN
      refine Eq.trans ?_ List.getElem?_toArray.symm
      by_cases h5 : i < N
      · rw [List.getElem?_append_left (by simpa using h5), List.getElem?_replicate, if_pos h5]
        have := all i h5
        have h6 : i < l.size := by rw [inv.size]; omega
        rw [Array.getD_eq_getD_getElem?, Array.getElem?_eq_getElem h6] at this
        rw [Array.getElem?_eq_getElem h6]; simpa using this
      · rw [List.getElem?_append_right (by simpa using h5), List.length_replicate, List.getElem?_replicate]
        by_cases h6 : i < ops.size
        · rw [if_pos (by omega)]
          have := inv.tail i (by omega) h6
          have h7 : i < l.size := by rw [inv.size]; omega
          rw [Array.getD_eq_getD_getElem?, Array.getElem?_eq_getElem h7] at this
          rw [Array.getElem?_eq_getElem h7]; simpa using this
        · rw [if_neg (by omega), Array.getElem?_eq_none (by rw [inv.size]; omega)]
    rw [hl]
    exact hK a w h4
  intro f
  induction f with
  | zero => intro l l' a w inv h1 h2 h; rw [Nat.zero_add]; exact fin l l' a w inv h1 h2 h.1 h.2
  | succ f ih =>
    intro l l' a w inv h1 h2 h
    by_cases hr : Region.ready .any hd l' = []
    · rw [Nat.add_comm]; exact any_more _ _ _ _ _ (fin l l' a w inv h1 h2 hr (h.1 hr))
    · rw [show f + 1 + (ops.size - N) = f + (ops.size - N) + 1 by omega]
      obtain ⟨j, hj⟩ := List.exists_mem_of_ne_nil _ hr
      obtain ⟨hju, oj, hoj, hja⟩ := mem_ready.1 hj
      have hjN : j < N := by have := (Array.getElem?_eq_some_iff.1 hoj).1; omega
      have up : ∀ i, i ∈ Region.ready .any hd l' → i < N → i ∈ Region.ready .any ops l := fun i hi hiN => by
        obtain ⟨h3, o, h4, h5⟩ := mem_ready.1 hi
        exact mem_ready.2 ⟨by rw [← h2 i true hiN]; exact h3, o, by rw [← hat i hiN]; exact h4, fun e he' hb => by have := hlow i o h4 e he' hb; rw [← h2 _ _ (by omega)]; exact h5 e he' hb⟩
      refine ⟨fun h0 => (by have := up j hj hjN; rw [h0] at this; cases this), fun i hi => ?_⟩
      have hiN : i < N := Nat.lt_of_not_le fun hle => tail_waits' hs hc inv _ j rfl hjN (by rw [← h2 j true hjN]; exact hju) i hle hi
      obtain ⟨hiu, o, hio, hia⟩ := mem_ready.1 hi
      have hio' : hd[i]? = some o := by rw [hat i hiN]; exact hio
      have hi' : i ∈ Region.ready .any hd l' := mem_ready.2 ⟨by rw [h2 i true hiN]; exact hiu, o, hio', fun e he' hb => by have := hlow i o hio' e he' hb; rw [h2 _ _ (by omega)]; exact hia e he' hb⟩
      have hw := h.2 i hi'
      have next : ∀ a w, wpAny P .any hd (QT Q K) f (l'.setIfInBounds i true) a w → wpAny P .any ops Q (f + (ops.size - N)) (l.setIfInBounds i true) a w := fun a w h' =>
        ih _ _ a w (inv.set hi hiN) (by rw [Array.size_setIfInBounds]; exact h1) (fun k d hk => by
          by_cases e : k = i
          · subst e; simp [Array.getD_eq_getD_getElem?, h1, hk, inv.size, show k < ops.size by omega]
          · rw [getD_set_ne d (Ne.symm e), getD_set_ne d (Ne.symm e)]; exact h2 k d hk) h'
      have hy : Region.wanted o (yielded hd a.tmps) = Region.wanted o (yielded ops a.tmps) := by
        have hgo := List.all_eq_true.1 hg o (List.mem_of_getElem? (by simpa using hio'))
        unfold Region.wanted
        cases hgd : o.guard with
        | none => rfl
        | some p =>
          obtain ⟨g, b⟩ := p
          rw [hgd] at hgo
          have : g < N := Nat.le_of_ble_eq_true hgo
          simp only
          unfold yielded
          rw [hat g this]
      unfold wpOp at hw ⊢
      rw [hio'] at hw
      rw [hio]
      simp only at hw ⊢
      rw [hy] at hw
      split
      · rename_i hw1
        rw [if_pos hw1] at hw
        rcases hw with hw | hw
        · exact .inl (wp_QT next hw)
        · exact .inr hw
      · rename_i hw1
        rw [if_neg hw1] at hw
        exact next _ _ hw
end
section
variable {G : Type} {P : Program} {n : Nat} {w0 : Ctx} {ops : Array Oper} {base : Slots} {vals : G → List Value} {writes : List Nat} {mem : List Bool → G → Mem}
def QM (P : Program) (ops : Array Oper) (Q : Exit → Act → World → Prop) (m : Nat) : Exit → Act → World → Prop := QT Q fun a w => wpAny P .any ops Q (ops.size - m) (firstN m (ops.size - m)) a w
def upto (ops : Array Oper) (m : Nat) : Array Oper := (ops.toList.take m).toArray
def headB (ops : Array Oper) (N : Nat) : Bool := Nat.blt N ops.size && (Region.sinkB .any ops N && (waitB ops N && (guardsB N (upto ops N).toList && (guardsB (N + 1) (upto ops (N + 1)).toList && (decide (Region.ready .any ops (firstN N (ops.size - N)) = [N]) && decide ((firstN N (ops.size - N)).setIfInBounds N true = firstN (N + 1) (ops.size - (N + 1))))))))
def tailB (ops : Array Oper) (m : Nat) : Bool := Region.noSelect ops && Region.lexFrom .any ops (ops.size - m) m (firstN m (ops.size - m))
theorem getD_firstN {m k j : Nat} (h : j < m) : (firstN m k).getD j false = true := by
  unfold firstN
  rw [Array.getD_eq_getD_getElem?, List.getElem?_toArray, List.getElem?_append_left (by simpa using h), List.getElem?_replicate, if_pos h]; rfl
theorem TL.mid {F : Slots} {M : Mem} {Q : Exit → Act → World → Prop} {hd : Array Oper} {m : Nat} (hi : Nat.ble hd.toList.length m = true) (hm : Nat.ble m ops.size = true) (hB : tailB ops m = true)
    (h : TG P n w0 ops (fun a' => ∀ done w', (∀ j, j < ops.size → done.getD j false = true) → MG w0 M M 0 done w' → Q .normal a' w') 0 M M M m F) : TL P n w0 hd (QM P ops Q m) m F M := by
  intro a w hF hM
  rw [List.drop_eq_nil_of_le (Nat.le_of_ble_eq_true hi)]
  have hms := Nat.le_of_ble_eq_true hm
  unfold tailB at hB
  rw [Bool.and_eq_true] at hB
  have hdl : (ops.toList.drop m).length = ops.size - m := by simp
  have H := anyG_lex (C := MG w0 M M 0) (md := .any) hB.1 (ops.toList.drop m) m (firstN m (ops.size - m)) a (fun j => by rw [List.getElem?_drop, Array.getElem?_toList]) (by unfold firstN; simp; omega) (fun j hj => getD_firstN hj) (by rw [hdl]; exact hB.2) (h (List.Sublist.refl _) (List.Sublist.refl _) a hF)
  have := any_of_anyG (C := MG w0 M M 0) (Q := Q) (by
    rintro done a' w' hC' ⟨⟨h1, h2⟩, h3⟩
    exact ⟨h1, h3 done w' h2 hC'⟩) _ _ a w (by unfold MG; cases (firstN m (ops.size - m)).getD 0 false <;> exact hM) H
  rw [hdl] at this
  exact this
theorem TC.planT {F : Slots} {M : Mem} {Q : Exit → Act → World → Prop} {id : Nat} (N : Nat) (γ0 : G) (Fe : G → Slots) (hm : P.follows .mixedOrders = true) (hb : pick (base.map Prod.fst) F = some base) (hB : planB (upto ops N).toList (base.map Prod.fst) = true) (hO : orderB (upto ops N).toList writes = true)
    (hD : ((upto ops N).toList.all fun o => match o.dst with | some d => Nat.blt d n | none => true) = true) (hl : ∀ γ, Nat.beq (vals γ).length (upto ops N).toList.length = true)
    (h0 : ∀ w, Sat w0 M w → Sat w0 (mem (writes.map fun _ => false) γ0) w) (he : ∀ γ, pick ((Fe γ).map Prod.fst) (zipD (upto ops N).toList (vals γ) ++ base) = some (Fe γ))
    (hN : headB ops N = true)
    (hs : Steps P w0 (upto ops N) base vals writes mem ((upto ops N).toList.drop 0) 0) (k : ∀ γ, TL P n w0 (upto ops (N + 1)) (QM P ops Q (N + 1)) N (Fe γ) (mem (writes.map fun _ => true) γ)) : TC P n w0 Q (.region id ops true) F M := by
  intro a w hF hM
  unfold headB at hN
  simp only [Bool.and_eq_true, decide_eq_true_eq] at hN
  obtain ⟨n1, n2, n3, n4, n5, n6, n7⟩ := hN
  have hn : N < ops.size := Nat.le_of_ble_eq_true n1
  have hT : ∀ m, (upto ops m).toList = ops.toList.take m := fun m => by unfold upto; simp
  have hsz : (upto ops N).size = N := by rw [← Array.length_toList, hT, List.length_take, Array.length_toList]; omega
  refine wp_region_any hm ?_
  have h1 := plan_wp (Q := QT Q (wpList P (upto ops (N + 1)) (QM P ops Q (N + 1)) ((upto ops (N + 1)).toList.drop N))) γ0 Fe hb hB hO hD hl h0 he hs (fun γ a' w' hF' hM' => k γ a' w' hF' hM') a w hF hM
  have hO' := hO
  unfold orderB at hO'
  rw [Bool.and_eq_true] at hO'
  obtain ⟨o, ho⟩ : ∃ o, ops[N]? = some o := ⟨_, Array.getElem?_eq_getElem hn⟩
  have ho2 : (upto ops (N + 1)).toList.drop N = [o] := by
    rw [hT, List.drop_take, show N + 1 - N = 1 by omega]
    have : ops.toList.drop N = o :: ops.toList.drop (N + 1) := by
      rw [← Array.getElem?_toList] at ho
      exact drop_at ho
    rw [this]; rfl
  have hfin : ∀ a w, wpList P (upto ops (N + 1)) (QM P ops Q (N + 1)) ((upto ops (N + 1)).toList.drop N) a w → wpAny P .any ops Q (ops.size - N) (firstN N (ops.size - N)) a w := by
    intro a w h
    rw [ho2] at h
    have e : ops.size - N = ops.size - (N + 1) + 1 := by omega
    conv => arg 5; rw [e]
    refine ⟨fun h0 => (by rw [n6] at h0; cases h0), fun i hi => ?_⟩
    rw [n6] at hi
    have hiN : i = N := List.mem_singleton.1 hi
    subst hiN
    rw [n7]
    have hy : Region.wanted o (yielded (upto ops (i + 1)) a.tmps) = Region.wanted o (yielded ops a.tmps) := by
      have hgo := List.all_eq_true.1 n5 o (List.mem_of_getElem? (i := i) (by rw [hT, List.getElem?_take_of_lt (by omega), Array.getElem?_toList]; exact ho))
      unfold Region.wanted
      cases hgd : o.guard with
      | none => rfl
      | some p =>
        obtain ⟨g, b⟩ := p
        rw [hgd] at hgo
        have hg : g < i + 1 := Nat.le_of_ble_eq_true hgo
        simp only
        unfold yielded
        have : (upto ops (i + 1))[g]? = ops[g]? := by rw [← Array.getElem?_toList, ← Array.getElem?_toList, hT, List.getElem?_take_of_lt hg]
        rw [this]
    unfold wpOp
    rw [ho]
    simp only [wpList, hy] at h ⊢
    split at h
    · rename_i hw1
      rw [if_pos hw1]
      rcases h with h | h
      · exact .inl (wp_QT (fun a w h => h) h)
      · exact .inr h
    · rename_i hw1
      rw [if_neg hw1]
      exact h
  have h2 := any_head (Q := Q) (hT N) hn n2 n3 n4 hO'.1 hfin (upto ops N).size (Array.replicate ops.size false) (Array.replicate (upto ops N).size false) a { w with drawn := w.drawn + 1 }
    ⟨by simp, fun j oj _ hl => (by rw [getD_replicate_false] at hl; cases hl), fun t _ ht => getD_in (by simpa using ht) (getD_replicate_false _ _)⟩ (by simpa using hsz)
    (fun i d hi => by simp [Array.getD_eq_getD_getElem?, hsz, hi, show i < ops.size by omega]) h1
  rwa [show (upto ops N).size + (ops.size - N) = ops.size by omega] at h2
end
end Go.Eng
end
section
namespace Go.Eng
open Go.RowKit (Below)
theorem cut0 {g : Option Addr} {c sz : Nat} : (if c = 0 then g else g.map (fun a => a.add (0 * sz))) = g := by
  split
  · rfl
  · cases g with
    | none => rfl
    | some a => rw [Nat.zero_mul]; rfl
theorem appnum_nil {α : Type} {c : α → Array Value} {P : Program} {w0 : Ctx} {M : Mem} {t tn e sz bytes : Nat} {kq kn : IntKind} (ty : TypeId) (k : Nat) (hT : rowType P t e sz bytes = true) (htn : P.underlying tn = some (.int kn)) (hsz : Nat.blt 0 sz = true)
    (h0 : 0 < k) (hb : k * bytes ≤ 140737488355328 ∧ k ≤ 140737488355328) (w : World) (hM : Sat w0 M w) :
    ∃ (g : Option Addr × Nat) (w' : World), (sV (Builtin.append_ #[t, tn] ty #[.slice none 0 0, .int kq ((k : Nat) : Int)])).run P w = .ok (.value (.slice g.1 k g.2)) w' ∧ Sat w0 (.inr (Own g.1 g.2 e sz (([] : List α).map c)) :: M) w' := by
  obtain ⟨hu, i, z, hi, hz, hs1, hs2, hs3⟩ := rowType_spec hT
  have hsz0 : 0 < sz := Nat.le_of_ble_eq_true hsz
  have hr := Lib.run_append_grow_zeros (P := P) w t tn ty e i z kq kn hu htn hi hz none 0 0 [] (run_firstCells_none w.drew i.size 0 0 0) k h0 (by rw [hs1]; exact hsz0) (by omega) (by omega) (by rw [hs2]; omega)
    (growslice_fits (by omega) (by rw [hs2, Nat.zero_add]; omega))
  simp only [Nat.zero_add] at hr
  have hge := grownCap_ge w k 0 e
  have hcm := grownCap_le_maxLen w k 0 e (by simp only [maxLen]; omega)
  refine ⟨(some ⟨w.heap.size, 0, none⟩, grownCap w k 0 e), _, run_sVw hr, hM.push (((Below.refl _ w).drew).alloc (Nat.le_refl _) _) _ ?_ ?_⟩
  · refine .inr ⟨_, _, rfl, by omega, heap_alloc_new w.drew _, Nat.zero_le _, hcm, ?_, ?_, ?_, ?_⟩
    · simp only [Array.size_append, List.size_toArray, size_zeroCells, hs3, List.length_nil, Nat.zero_add]
      rw [← Nat.add_mul]
      congr 1
      omega
    · simp [flat]
    · intro r hr; cases hr
    · simp
  · rintro b ⟨_, a, h2, rfl⟩
    simp only [Option.some.injEq] at h2
    subst h2
    exact Nat.le_refl _
end Go.Eng
end
