/- Functions of the program, each with the Lean function that it computes. Conditions: none. -/
import Derived.Test.YtngnagndhikafaaDoorDecEq
namespace Go.Sky
open Go Go.Eng Go.Proofs
def skywaykeep2_fine_1 (e_ : Int) : Bool :=
  e_ != 0

set_option maxRecDepth 100000 in
theorem skywaykeep2_fine_1_w (e_ : Int) (w : World) : Calls Tryd.prog 21 #[.int .i64 e_] w (Ret w (.bool (skywaykeep2_fine_1 e_))) := by
  exact calls_intro (vs := [.i e_]) (w := w) Tryd.func21 rfl Tryd.ntmps21 rfl (TC.sr (TL.r 1 [] [(2, .b false)] {} (TL.nr (TL.r 3 [] [(2, .b (e_ != 0))] {} (TL.next rfl (TC.ret (TE.ret [] (.b (e_ != 0)) {} (by unfold skywaykeep2_fine_1; refine eS (fun z => (.b z : Value)) ?_; exact rfl))))))))

def IndexFunc_fine_L1 : List Int → Nat → ((Unit) ⊕ (Int))
  | [], _ => .inl ()
  | x :: xs, k => let r1 := skywaykeep2_fine_1 x
    cond r1 (
      .inr (k : Int)) (
      IndexFunc_fine_L1 xs (k + 1))
def IndexFunc_fine (s : List Int) : Int :=
  Sum.elim (fun _ =>
    (-1)) (fun r => r) (IndexFunc_fine_L1 s 0)

set_option maxRecDepth 100000 in
theorem IndexFunc_fine_w (A_s : Option Addr) (c_s : Nat) (s : List Int) (w : World) (h_s : Rd w 1 A_s (s.map ic)) (_hc_s : s.length ≤ c_s) : Calls Tryd.prog 33 #[.slice A_s s.length c_s, .func (.func 21) #[] #[]] w (Ret w (.int .i64 (IndexFunc_fine s))) := by
  have s_s := h_s.short; rw [List.length_map] at s_s
  refine calls_intro (vs := [.slice A_s s.length c_s, .func (.func 21) #[] #[]]) (w := w) Tryd.func33 rfl Tryd.ntmps33 rfl (TC.sr (TL.r 1 [] [(4, .i 0)] {} (TL.ns (TC.sr (TL.r 3 [] [(7, .i (s.length : Int)), (8, .i 0)] {} (TL.next rfl ?_))))))
  obtain ⟨R1, hR⟩ : ∃ R, R = IndexFunc_fine_L1 s 0 := ⟨_, rfl⟩
  refine TC.cut (S := Unit) (fun (_ : Unit) => []) (fun (_ : Unit) => []) (fun (_ : Unit) => R1 = .inl ()) ?_ ?_
  · refine TC.block (TC.lw (X := Nat) (fun k => [(0, .slice A_s s.length c_s), (1, .func (.func 21) #[] #[]), (7, .i (s.length : Int)), (8, .i (k : Int))]) (fun k => []) (fun k => s.length - k) (fun k => k ≤ s.length ∧ R1 = IndexFunc_fine_L1 (s.drop k) k) ?_ 0 ⟨Nat.zero_le _, hR⟩ Kr (sb 0))
    rintro k ⟨hk, hI⟩
    refine TC.sr (TL.r 1 [] [(9, .b (decide ((k : Int) < (s.length : Int))))] {} (TL.ns (TC.cond (decide ((k : Int) < (s.length : Int))) rfl Kr (fun h1 => ?_) (fun h1 => ?_))))
    · have hlt := ltN h1
      obtain ⟨x, hx⟩ := elN hlt
      have hd := drop_at hx
      refine TC.sn (TC.seq (TC.block (TC.sr (TL.r 2 [] [(5, .i (k : Int))] {} (TL.nr (TL.r 3 [] [(11, .func (.func 21) #[] #[]), (12, .slice A_s s.length c_s), (13, .i (k : Int))] {} (TL.v (sV (Instr.indexAt 54 (.slice A_s s.length c_s) (.i (k : Int)))) 14 (.pointer (some (Ix A_s (k * 1)))) (fun w hM => run_index (h_s.sat hM) (by simp) Kr sd sd) {} (TL.v (sV (Instr.loadAt 29 (.pointer (some (Ix A_s (k * 1)))))) 15 (.i x) (fun w hM => run_load_one (off := 0) (i := k) (.i x) (h_s.sat hM) (map_at hx) Kr Kr) {} (TL.c 16 (skywaykeep2_fine_1 x) (fun r1 => .b r1) (fun w _ => skywaykeep2_fine_1_w x w) {} (fun r1 hr1 => TL.next rfl (TC.cond r1 rfl Kr (fun h2 => ?_) (fun h2 => ?_))))))))))))
      · refine TC.sr (TL.r 2 [] [(4, .i (k : Int))] {} (TL.next rfl (TC.ret (TE.rb (TE.rt (TE.rt (TE.rb (TE.rt (TE.rt ?_)))))))))
        exact TE.ret [] (.i (k : Int)) {} (by unfold IndexFunc_fine; refine eS (fun z => (.i z : Value)) ?_; subst hr1; exact elim_r (hR.symm.trans (hI.trans (by rw [hd]; exact cond_t h2 (rfl)))) rfl)
      · exact TC.skip (TE.nb (TE.next (TC.region (TL.r 2 [] [(8, .i (w64 ((k : Int) + 1)))] {} (TL.done rfl (TE.rw 8 (.i (w64 ((k : Int) + 1))) (.i ((k + 1 : Nat) : Int)) Kr (w64_cast k (by omega)) (TE.again (x := k) (k + 1) ⟨by omega, hI.trans (by subst hr1; rw [hd]; exact cond_f h2 (rfl))⟩ (mN hlt) Kr (sb 0))))))))
    · have hd := dropN h1
      refine TC.exit (TE.et (TE.et (TE.exit_same ?_)))
      exact TE.cut () (hI.trans (by rw [hd]; exact rfl)) Kr (sb 0)
  · intro _ hJ
    exact TE.nr (TL.r 1 [] [(4, .i (-1))] {} (TL.next rfl (TC.ret (TE.ret [] (.i (-1)) {} (by unfold IndexFunc_fine; refine eS (fun z => (.i z : Value)) ?_; exact elim_l (hR.symm.trans hJ) (rfl))))))

def ContainsFunc_fine (s : List Int) : Bool :=
  let r1 := IndexFunc_fine s
  decide (r1 ≥ 0)

set_option maxRecDepth 100000 in
theorem ContainsFunc_fine_w (A_s : Option Addr) (c_s : Nat) (s : List Int) (w : World) (h_s : Rd w 1 A_s (s.map ic)) (hc_s : s.length ≤ c_s) : Calls Tryd.prog 20 #[.slice A_s s.length c_s, .func (.func 21) #[] #[]] w (Ret w (.bool (ContainsFunc_fine s))) := by
  have s_s := h_s.short; rw [List.length_map] at s_s
  exact calls_intro (vs := [.slice A_s s.length c_s, .func (.func 21) #[] #[]]) (w := w) Tryd.func20 rfl Tryd.ntmps20 rfl (TC.sr (TL.r 1 [] [(4, .b false)] {} (TL.nr (TL.r 2 [] [(5, .slice A_s s.length c_s), (6, .func (.func 21) #[] #[])] {} (TL.c 7 (IndexFunc_fine s) (fun r1 => .i r1) (fun w hM => IndexFunc_fine_w A_s c_s s w (h_s.sat hM) hc_s) {} (fun r1 hr1 => TL.r 5 [] [(4, .b (decide (r1 ≥ 0)))] {} (TL.next rfl (TC.ret (TE.ret [] (.b (decide (r1 ≥ 0))) {} (by unfold ContainsFunc_fine; refine eS (fun z => (.b z : Value)) ?_; subst hr1; exact rfl))))))))))

def skywaykeep2_fine (l : List Int) : Bool :=
  let r1 := ContainsFunc_fine l
  !r1

set_option maxRecDepth 100000 in
theorem skywaykeep2_fine_w (A_l : Option Addr) (c_l : Nat) (l : List Int) (w : World) (h_l : Rd w 1 A_l (l.map ic)) (hc_l : l.length ≤ c_l) : Calls Tryd.prog 11 #[.slice A_l l.length c_l] w (Ret w (.bool (skywaykeep2_fine l))) := by
  have s_l := h_l.short; rw [List.length_map] at s_l
  exact calls_intro (vs := [.slice A_l l.length c_l]) (w := w) Tryd.func11 rfl Tryd.ntmps11 rfl (TC.sr (TL.r 1 [] [(2, .b false)] {} (TL.nr (TL.r 1 [] [(3, .slice A_l l.length c_l)] {} (TL.c 4 (ContainsFunc_fine l) (fun r1 => .b r1) (fun w hM => ContainsFunc_fine_w A_l c_l l w (h_l.sat hM) hc_l) {} (fun r1 hr1 => TL.r 4 [] [(2, .b (!r1))] {} (TL.next rfl (TC.ret (TE.ret [] (.b (!r1)) {} (by unfold skywaykeep2_fine; refine eS (fun z => (.b z : Value)) ?_; subst hr1; exact rfl))))))))))

def skywaykeep2_frames : Bool :=
  let r1 := wire_Encode (⟨3, 0, []⟩ : WireFrame)
  let r2 := wire_Decode r1.1
  let r3 := skywaykeep2_fine ([r1.2, r2.2.2])
  (r3 && (r2.2.1 == 11)) && (r2.1.Radar == 3)

set_option maxRecDepth 100000 in
theorem skywaykeep2_frames_w (w : World) : Calls Tryd.prog 4 #[] w (Ret w (.bool (skywaykeep2_frames))) := by
  refine calls_intro (vs := []) (w := w) Tryd.func4 rfl Tryd.ntmps4 rfl (TC.sr (TL.r 1 [] [(0, .b false)] {} (TL.nr (TL.r 1 [] [(7, .agg #[.i 3, .i 0, .slice none 0 0])] {} (TL.c 8 (wire_Encode (⟨3, 0, []⟩ : WireFrame)) (fun r1 => .tuple #[.string r1.1, .i r1.2]) (fun w hM => wire_Encode_w (⟨3, 0, []⟩ : WireFrame) none 0 w (Rd.nil _ _) (Nat.le_refl _)) {} (fun r1 hr1 => TL.r 7 [] [(1, .string r1.1), (2, .i r1.2)] {} (TL.nr (TL.r 1 [] [(12, .string r1.1)] {} (TL.cn (Γ := AN) 13 (wire_Decode r1.1) (fun r2 g => .tuple #[.agg #[.i r2.1.Radar, .i r2.1.Time, .slice g.1 r2.1.Plots.length g.2], .i r2.2.1, .i r2.2.2]) (fun r2 g => [Ow g.1 g.2 46 6 (r2.1.Plots.map Plot.c)]) (fun w _ => wire_Decode_w r1.1 w (enc_size hr1)) {} (fun r2 hr2 => ?_))))))))))
  rintro ⟨A, c⟩
  exact TL.know (fun w hM => hM.short_at 0 rfl) (fun s_r2_0 => TL.r 6 [] [(14, .agg #[.i r2.1.Radar, .i r2.1.Time, .slice A r2.1.Plots.length c]), (15, .i r2.2.1), (16, .i r2.2.2)] {} (TL.nw 3 (fun b1 => .p0 b1) (fun b1 => Bk b1 #[.i 0, .i 0, .slice none 0 0] 27) (fun b1 => {}) (fun b1 => TL.s 0 (Bk b1 #[.i r2.1.Radar, .i r2.1.Time, .slice A r2.1.Plots.length c] 27) (fun _ => {}) (TL.r 10 [] [(4, .i r2.2.1), (5, .i r2.2.2)] {} (TL.nr (TL.r 2 [] [(17, .i r1.2), (18, .i r2.2.2)] {} (TL.nw 19 (fun b2 => .slice (Pa b2) 2 2) (fun b2 => Bk b2 #[.i r1.2, .i r2.2.2] 29) (fun b2 => {}) (fun b2 => TL.c 20 (skywaykeep2_fine ([r1.2, r2.2.2])) (fun r3 => .b r3) (fun w hM => skywaykeep2_fine_w (Pa b2) 2 ([r1.2, r2.2.2]) w (Rd.lit hM 0 _ rfl Kr Kr Kr) (Nat.le_refl _)) {} (fun r3 hr3 => TL.r 5 [] [(21, .b r3)] {} (TL.j 21 r3 8 [] [] (fun β => [(24, .b (β && (r2.2.1 == 11)))]) Kr {} {} (TL.r 9 [] [(25, .b (r3 && (r2.2.1 == 11)))] {} (TL.j 25 (r3 && (r2.2.1 == 11)) 13 [1] [] (fun β => [(29, .b (β && (r2.1.Radar == 3)))]) Kr {} {} (TL.r 14 [] [(0, .b ((r3 && (r2.2.1 == 11)) && (r2.1.Radar == 3)))] {} (TL.next rfl (TC.ret (TE.ret [] (.b ((r3 && (r2.2.1 == 11)) && (r2.1.Radar == 3))) {} (by unfold skywaykeep2_frames; refine eS (fun z => (.b z : Value)) ?_; subst hr1 hr2 hr3; exact rfl)))))))))))))))))

def slices_Equal_api_Plot_api_Plot_L1 (s2 : List Plot) : List Plot → Nat → ((Unit) ⊕ (Bool))
  | [], _ => .inl ()
  | x :: xs, k => cond (!(Plot.eqb x (s2[k]?.getD Plot.zero))) (
      .inr false) (
      slices_Equal_api_Plot_api_Plot_L1 s2 xs (k + 1))
def slices_Equal_api_Plot_api_Plot (s1 : List Plot) (s2 : List Plot) : Bool :=
  cond ((s1.length : Int) != (s2.length : Int)) (
    false) (
    Sum.elim (fun _ =>
      true) (fun r => r) (slices_Equal_api_Plot_api_Plot_L1 s2 s1 0))

set_option maxRecDepth 100000 in
theorem slices_Equal_api_Plot_api_Plot_w (A_s1 : Option Addr) (c_s1 : Nat) (s1 : List Plot) (A_s2 : Option Addr) (c_s2 : Nat) (s2 : List Plot) (w : World) (h_s1 : Rd w 6 A_s1 (s1.map Plot.c)) (_hc_s1 : s1.length ≤ c_s1) (h_s2 : Rd w 6 A_s2 (s2.map Plot.c)) (_hc_s2 : s2.length ≤ c_s2) : Calls Tryd.prog 17 #[.slice A_s1 s1.length c_s1, .slice A_s2 s2.length c_s2] w (Ret w (.bool (slices_Equal_api_Plot_api_Plot s1 s2))) := by
  have s_s1 := h_s1.short; rw [List.length_map] at s_s1
  have s_s2 := h_s2.short; rw [List.length_map] at s_s2
  refine calls_intro (vs := [.slice A_s1 s1.length c_s1, .slice A_s2 s2.length c_s2]) (w := w) Tryd.func17 rfl Tryd.ntmps17 rfl (TC.sr (TL.r 1 [] [(4, .b false)] {} (TL.ns (TC.sr (TL.r 5 [] [(10, .b ((s1.length : Int) != (s2.length : Int)))] {} (TL.next rfl (TC.cond ((s1.length : Int) != (s2.length : Int)) rfl Kr (fun h1 => ?_) (fun h1 => ?_))))))))
  · exact TC.sr (TL.r 1 [] [(4, .b false)] {} (TL.next rfl (TC.ret (TE.rt (TE.ret [] (.b false) {} (by unfold slices_Equal_api_Plot_api_Plot; refine eS (fun z => (.b z : Value)) ?_; exact cond_t h1 (rfl)))))))
  · have q1_0 := (bne_f h1)
    refine TC.sn (TC.seq (TC.sr (TL.r 3 [] [(12, .i (s1.length : Int)), (13, .i 0)] {} (TL.next rfl ?_))))
    obtain ⟨R1, hR⟩ : ∃ R, R = slices_Equal_api_Plot_api_Plot_L1 s2 s1 0 := ⟨_, rfl⟩
    refine TC.cut (S := Unit) (fun (_ : Unit) => []) (fun (_ : Unit) => []) (fun (_ : Unit) => R1 = .inl ()) ?_ ?_
    · refine TC.block (TC.lw (X := Nat) (fun k => [(0, .slice A_s1 s1.length c_s1), (1, .slice A_s2 s2.length c_s2), (12, .i (s1.length : Int)), (13, .i (k : Int))]) (fun k => []) (fun k => s1.length - k) (fun k => k ≤ s1.length ∧ R1 = slices_Equal_api_Plot_api_Plot_L1 s2 (s1.drop k) k) ?_ 0 ⟨Nat.zero_le _, hR⟩ Kr (sb 0))
      rintro k ⟨hk, hI⟩
      refine TC.sr (TL.r 1 [] [(14, .b (decide ((k : Int) < (s1.length : Int))))] {} (TL.ns (TC.cond (decide ((k : Int) < (s1.length : Int))) rfl Kr (fun h2 => ?_) (fun h2 => ?_))))
      · have hlt := ltN h2
        obtain ⟨x, hx⟩ := elN hlt
        have hd := drop_at hx
        refine TC.sn (TC.seq (TC.block (TC.sr (TL.r 2 [] [(5, .i (k : Int))] {} (TL.ns (TC.draw 9 Kr Kr Kr (TQ.r 2 [] [(16, .slice A_s1 s1.length c_s1), (17, .i (k : Int))] {} (TQ.v (sV (Instr.indexAt 25 (.slice A_s1 s1.length c_s1) (.i (k : Int)))) 18 (.pointer (some (Ix A_s1 (k * 6)))) (fun w hM => run_index (h_s1.sat hM) (by simp) Kr sd sd) rfl {} (TQ.v (sV (Instr.loadAt 46 (.pointer (some (Ix A_s1 (k * 6)))))) 19 (Plot.v x) (fun w hM => run_load_agg (n := 6) (off := 0) (i := k) (Plot.v x) (h_s1.sat hM) (map_at hx) Kr Kr Kr) rfl {} (TQ.r 6 [] [(20, .slice A_s2 s2.length c_s2), (21, .i (k : Int))] {} (TQ.v (sV (Instr.indexAt 25 (.slice A_s2 s2.length c_s2) (.i (k : Int)))) 22 (.pointer (some (Ix A_s2 (k * 6)))) (fun w hM => run_index (h_s2.sat hM) (by simp) Kr sd sd) rfl {} (TQ.v (sV (Instr.loadAt 46 (.pointer (some (Ix A_s2 (k * 6)))))) 23 (Plot.v (s2[k]?.getD Plot.zero)) (fun w hM => run_load_agg (n := 6) (off := 0) (i := k) (Plot.v (s2[k]?.getD Plot.zero)) (h_s2.sat hM) (map_at (getD_at _ _ Plot.zero sd)) Kr Kr Kr) rfl {} (TQ.v (sV (do eqGuard .neq 46 (.tmp 19) (.tmp 23) (Plot.v x) (Plot.v (s2[k]?.getD Plot.zero)); binOp .neq 46 (Plot.v x) (Plot.v (s2[k]?.getD Plot.zero)))) 24 (.b (!(Plot.eqb x (s2[k]?.getD Plot.zero)))) (fun w hM => run_neq (b := Plot.eqb x (s2[k]?.getD Plot.zero)) Kr Kr w) rfl {} (TQ.next rfl (TC.cond (!(Plot.eqb x (s2[k]?.getD Plot.zero))) rfl Kr (fun h3 => ?_) (fun h3 => ?_))))))))))))))))
        · refine TC.sr (TL.r 1 [] [(4, .b false)] {} (TL.next rfl (TC.ret (TE.rb (TE.rt (TE.rt (TE.rb (TE.rt (TE.rt ?_)))))))))
          exact TE.ret [] (.b false) {} (by unfold slices_Equal_api_Plot_api_Plot; refine eS (fun z => (.b z : Value)) ?_; exact cond_f h1 (elim_r (hR.symm.trans (hI.trans (by rw [hd]; exact cond_t h3 (rfl)))) rfl))
        · exact TC.skip (TE.nb (TE.next (TC.region (TL.r 2 [] [(13, .i (w64 ((k : Int) + 1)))] {} (TL.done rfl (TE.rw 13 (.i (w64 ((k : Int) + 1))) (.i ((k + 1 : Nat) : Int)) Kr (w64_cast k (by omega)) (TE.again (x := k) (k + 1) ⟨by omega, hI.trans (by rw [hd]; exact cond_f h3 (rfl))⟩ (mN hlt) Kr (sb 0))))))))
      · have hd := dropN h2
        refine TC.exit (TE.et (TE.et (TE.exit_same ?_)))
        exact TE.cut () (hI.trans (by rw [hd]; exact rfl)) Kr (sb 0)
    · intro _ hJ
      exact TE.nr (TL.r 1 [] [(4, .b true)] {} (TL.next rfl (TC.ret (TE.ret [] (.b true) {} (by unfold slices_Equal_api_Plot_api_Plot; refine eS (fun z => (.b z : Value)) ?_; exact cond_f h1 (elim_l (hR.symm.trans hJ) (rfl)))))))

def skywaykeep2_sameFrame (f : WireFrame) (g_ : WireFrame) : Bool :=
  cond ((f.Radar == g_.Radar) && (f.Time == g_.Time)) (
    let r1 := slices_Equal_api_Plot_api_Plot f.Plots g_.Plots
    r1) (
    false)

set_option maxRecDepth 100000 in
theorem skywaykeep2_sameFrame_w (f : WireFrame) (A_f_Plots : Option Addr) (c_f_Plots : Nat) (g_ : WireFrame) (A_g__Plots : Option Addr) (c_g__Plots : Nat) (w : World) (h_f_Plots : Rd w 6 A_f_Plots (f.Plots.map Plot.c)) (hc_f_Plots : f.Plots.length ≤ c_f_Plots) (h_g__Plots : Rd w 6 A_g__Plots (g_.Plots.map Plot.c)) (hc_g__Plots : g_.Plots.length ≤ c_g__Plots) : Calls Tryd.prog 9 #[.agg #[.int .i64 f.Radar, .int .i64 f.Time, .slice A_f_Plots f.Plots.length c_f_Plots], .agg #[.int .i64 g_.Radar, .int .i64 g_.Time, .slice A_g__Plots g_.Plots.length c_g__Plots]] w (Ret w (.bool (skywaykeep2_sameFrame f g_))) := by
  have s_f_Plots := h_f_Plots.short; rw [List.length_map] at s_f_Plots
  have s_g__Plots := h_g__Plots.short; rw [List.length_map] at s_g__Plots
  refine calls_intro (vs := [.agg #[.i f.Radar, .i f.Time, .slice A_f_Plots f.Plots.length c_f_Plots], .agg #[.i g_.Radar, .i g_.Time, .slice A_g__Plots g_.Plots.length c_g__Plots]]) (w := w) Tryd.func9 rfl Tryd.ntmps9 rfl (TC.sr (TL.nw 2 (fun b1 => .p0 b1) (fun b1 => Bk b1 #[.i f.Radar, .i f.Time, .slice A_f_Plots f.Plots.length c_f_Plots] 27) (fun b1 => {}) (fun b1 => TL.nw 3 (fun b2 => .p0 b2) (fun b2 => Bk b2 #[.i g_.Radar, .i g_.Time, .slice A_g__Plots g_.Plots.length c_g__Plots] 27) (fun b2 => {}) (fun b2 => TL.r 3 [] [(4, .b false)] {} (TL.nr (TL.r 6 [1, 0] [(10, .b (f.Radar == g_.Radar))] {} (TL.j 10 (f.Radar == g_.Radar) 12 [1, 0] [] (fun β => [(16, .b (β && (f.Time == g_.Time)))]) Kr {} {} (TL.r 13 [] [(17, .b ((f.Radar == g_.Radar) && (f.Time == g_.Time)))] {} (TL.split 17 ((f.Radar == g_.Radar) && (f.Time == g_.Time)) Kr (fun h1 => ?_) (fun h1 => ?_))))))))))
  · exact TL.r 17 [1, 0] [(19, .slice A_f_Plots f.Plots.length c_f_Plots), (21, .slice A_g__Plots g_.Plots.length c_g__Plots)] {} (TL.c 22 (slices_Equal_api_Plot_api_Plot f.Plots g_.Plots) (fun r1 => .b r1) (fun w hM => slices_Equal_api_Plot_api_Plot_w A_f_Plots c_f_Plots f.Plots A_g__Plots c_g__Plots g_.Plots w (h_f_Plots.sat hM) hc_f_Plots (h_g__Plots.sat hM) hc_g__Plots) {} (fun r1 hr1 => TL.r 20 [] [(4, .b r1)] {} (TL.next rfl (TC.ret (TE.ret [] (.b r1) {} (by unfold skywaykeep2_sameFrame; refine eS (fun z => (.b z : Value)) ?_; subst hr1; exact cond_t h1 (rfl)))))))
  · exact TL.r 20 [] [(4, .b false)] {} (TL.next rfl (TC.ret (TE.ret [] (.b false) {} (by unfold skywaykeep2_sameFrame; refine eS (fun z => (.b z : Value)) ?_; exact cond_f h1 (rfl)))))

end Go.Sky
