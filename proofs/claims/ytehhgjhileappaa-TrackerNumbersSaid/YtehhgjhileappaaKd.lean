/- Functions of the program, each with the Lean function that it computes. Conditions: none. -/
import Derived.Test.YtehhgjhileappaaKc
namespace Go.Sky
open Go Go.Eng Go.Proofs
def skywaykeep2_rules (need : Int) (of_ : Int) : TrackerRules :=
  (⟨need, of_, 3, 2, 128, 128⟩ : TrackerRules)

set_option maxRecDepth 100000 in
theorem skywaykeep2_rules_w (need : Int) (of_ : Int) (w : World) : Calls Try.prog 8 #[.int .i64 need, .int .i64 of_] w (Ret w (TrackerRules.v (skywaykeep2_rules need of_))) := by
  refine calls_intro (vs := [.i need, .i of_]) (w := w) Try.func8 rfl Try.ntmps8 rfl (TC.weak [(0, .i need), (1, .i of_)] Kr (TC.seq (TC.region (TL.nw 4 (fun b1 => .p0 b1) (fun b1 => Bk b1 (TrackerRules.c TrackerRules.zero) 29) (fun b1 => {}) (fun b1 => TL.next rfl (TC.seq (TC.region (TL.r 3 [] [(7, TrackerRules.v (⟨need, of_, 3, 2, 128, 128⟩ : TrackerRules))] {} (TL.s 0 (Bk b1 (TrackerRules.c (⟨need, of_, 3, 2, 128, 128⟩ : TrackerRules)) 29) (fun _ => {}) (TL.next rfl (TC.ret ?_)))))))))))
  have e : skywaykeep2_rules need of_ = (⟨need, of_, 3, 2, 128, 128⟩ : TrackerRules) := by unfold skywaykeep2_rules; exact rfl
  exact TE.ret [0] (TrackerRules.v (⟨need, of_, 3, 2, 128, 128⟩ : TrackerRules)) {} (by rw [e]; first | done | kernel_rfl)

def skywaykeep2_tracks : Bool :=
  let r1 := skywaykeep2_rules 1 1
  let r2 := tracker_New r1
  cond ((r2.2 != 0) || false) (
    false) (
    let r3 := tracker_Tracker_Scan r2.1 ([(⟨0, ⟨0, 0⟩, 0, 5, 10⟩ : Spot)] : List Spot) 0
    cond ((r3.2.1 == 0) && ((r3.1.length : Int) == 1)) (
      ((r3.1[0]?.getD Track.zero).State) == 1) (
      false))

theorem new_all {need of_ : Int} {r1 : TrackerRules} {r2 : Tracker × Int} (h1 : skywaykeep2_rules need of_ = r1) (h2 : tracker_New r1 = r2) (h : tracker_Check (skywaykeep2_rules need of_) = 0) : r2.1.all = [] := by
  subst h1 h2
  unfold tracker_New
  simp only
  rw [h]; rfl

set_option maxRecDepth 100000 in
theorem skywaykeep2_tracks_w (w : World) : Calls Try.prog 6 #[] w (Ret w (.bool (skywaykeep2_tracks))) := by
  refine calls_intro (vs := []) (w := w) Try.func6 rfl Try.ntmps6 rfl (TC.weak [] Kr (TC.seq (TC.region (TL.r 1 [] [(0, .b false)] {} (TL.next rfl (TC.seq (TC.region (TL.c 5 (skywaykeep2_rules 1 1) (fun r1 => TrackerRules.v r1) (fun w _ => skywaykeep2_rules_w 1 1 w) {} (fun r1 hr1 => TL.cm (Γ := Nat × AN) 0 6 (tracker_New r1) (fun r2 g => .tuple #[.p0 g.1, .i r2.2]) (fun r2 g => [Bk g.1 (Tracker.k r2.1 g.2.1 g.2.2) 60, Ow g.2.1 g.2.2 70 23 (r2.1.all.map followed.c)]) [] Kr (fun w hM => tracker_New_w r1 w hM (by subst hr1; rfl)) {} (fun r2 hr2 => ?_))))))))))
  rintro ⟨b_r2, A, c⟩
  refine TL.know (fun w hM => hM.short_at 1 rfl) (fun s_r2_1 => TL.r 7 [] [(1, .p0 b_r2), (2, .i r2.2)] {} (TL.next rfl (TC.seq (TC.seq (TC.region (TL.r 3 [] [(11, .b (r2.2 != 0))] {} (TL.j 11 (r2.2 != 0) 6 [] [] (fun β => [(14, .b (β || false))]) Kr {} {} (TL.next rfl (TC.cond ((r2.2 != 0) || false) rfl Kr (fun h1 => ?_) (fun h1 => ?_))))))))))
  · refine TC.seq (TC.region (TL.r 1 [] [(0, .b false)] {} (TL.next rfl (TC.ret (TE.ret_then ?_)))))
    have e : skywaykeep2_tracks = false := by subst hr1 hr2; unfold skywaykeep2_tracks; exact cond_t h1 (rfl)
    exact TE.ret [] (.b false) {} (by rw [e]; first | done | kernel_rfl)
  · refine TC.skip (TE.next (TC.seq (TC.region (TL.r 2 [] [(16, .p0 b_r2), (17, Spot.v (⟨0, ⟨0, 0⟩, 0, 5, 10⟩ : Spot))] {} (TL.nw 18 (fun b1 => .slice (Pa b1) 1 1) (fun b1 => Bk b1 (Spot.c (⟨0, ⟨0, 0⟩, 0, 5, 10⟩ : Spot)) 36) (fun b1 => {}) (fun b1 => TL.conv [Ow (Pa b1) 1 36 6 (([(⟨0, ⟨0, 0⟩, 0, 5, 10⟩ : Spot)] : List Spot).map Spot.c), Bk b_r2 (Tracker.k r2.1 A c) 60, Ow A c 70 23 (r2.1.all.map followed.c)] (fun _ hM => by exact hM.litrow 0 (([(⟨0, ⟨0, 0⟩, 0, 5, 10⟩ : Spot)] : List Spot).map Spot.c) rfl Kr Kr Kr Kr) (TL.conv [Bk b_r2 (Tracker.k r2.1 A c) 60, Ow A c 70 23 (r2.1.all.map followed.c), Ow (Pa b1) 1 36 6 (([(⟨0, ⟨0, 0⟩, 0, 5, 10⟩ : Spot)] : List Spot).map Spot.c)] (fun _ hM => hM.perm (((List.Perm.cons _ (List.Perm.refl _)).trans (List.Perm.swap _ _ _)).trans (List.Perm.cons _ (((List.Perm.cons _ (List.Perm.refl _)).trans (List.Perm.swap _ _ _)).trans (List.Perm.cons _ (List.Perm.refl _)))))) (TL.cm (Γ := AN × AN) 3 19 (tracker_Tracker_Scan r2.1 ([(⟨0, ⟨0, 0⟩, 0, 5, 10⟩ : Spot)] : List Spot) 0) (fun r3 g => .tuple #[.slice g.1.1 r3.1.length g.1.2, .i r3.2.1]) (fun r3 g => [Bk b_r2 (Tracker.k r3.2.2 g.2.1 g.2.2) 60, Ow g.2.1 g.2.2 70 23 (r3.2.2.all.map followed.c), Ow (Pa b1) 1 36 6 (([(⟨0, ⟨0, 0⟩, 0, 5, 10⟩ : Spot)] : List Spot).map Spot.c), Ow g.1.1 g.1.2 44 13 (r3.1.map Track.c)]) [Bk b_r2 (Tracker.k r2.1 A c) 60, Ow A c 70 23 (r2.1.all.map followed.c), Ow (Pa b1) 1 36 6 (([(⟨0, ⟨0, 0⟩, 0, 5, 10⟩ : Spot)] : List Spot).map Spot.c)] Kr (fun w hM => tracker_Tracker_Scan_w b_r2 r2.1 A c (Pa b1) 1 ([(⟨0, ⟨0, 0⟩, 0, 5, 10⟩ : Spot)] : List Spot) 0 w hM (by rw [new_all hr1 hr2 rfl]; decide)) {} (fun r3 hr3 => ?_)))))))))
    rintro ⟨⟨A_2, c_2⟩, A_3, c_3⟩
    refine TL.know (fun w hM => hM.short_at 1 rfl) (fun s_r3_1 => TL.know (fun w hM => hM.short_at 3 rfl) (fun s_r3_3 => TL.r 9 [] [(2, .i r3.2.1), (3, .slice A_2 r3.1.length c_2)] {} (TL.next rfl (TC.seq (TC.region (TL.r 3 [] [(24, .b (r3.2.1 == 0))] {} (TL.j 24 (r3.2.1 == 0) 7 [] [] (fun β => [(28, .b (β && ((r3.1.length : Int) == 1)))]) Kr {} {} (TL.r 8 [] [(29, .b ((r3.2.1 == 0) && ((r3.1.length : Int) == 1)))] {} (TL.split 29 ((r3.2.1 == 0) && ((r3.1.length : Int) == 1)) Kr (fun h2 => ?_) (fun h2 => ?_))))))))))
    · refine TL.r 9 [] [(30, .slice A_2 r3.1.length c_2)] {} (TL.v (sV (Instr.indexAt 39 (.slice A_2 r3.1.length c_2) (.i 0))) 31 (.pointer (some (Ix A_2 (0 * 13)))) (fun w hM => run_index (hM.rd_at 3 rfl) (by simp) Kr (by have q0_ := (bne_f (or_f1 h1)); have q1_ := (beq_t (and_t1 h2)); have q2_ := (beq_t (and_t2 h2)); exact sd) (by have q0_ := (bne_f (or_f1 h1)); have q1_ := (beq_t (and_t1 h2)); have q2_ := (beq_t (and_t2 h2)); exact sd)) {} (TL.r 11 [] [(32, .pointer (some ((Ix A_2 (0 * 13)).add 1)))] {} (TL.v (sV (Instr.loadAt 3 (.pointer (some ((Ix A_2 (0 * 13)).add 1))))) 33 (.i ((r3.1[0]?.getD Track.zero).State)) (fun w hM => run_load_one (off := 1) (i := 0) (.i ((r3.1[0]?.getD Track.zero).State)) (hM.rd_at 3 rfl) (map_at (getD_at _ _ Track.zero (by have q0_ := (bne_f (or_f1 h1)); have q1_ := (beq_t (and_t1 h2)); have q2_ := (beq_t (and_t2 h2)); exact sd))) Kr Kr) {} (TL.r 15 [] [(0, .b (((r3.1[0]?.getD Track.zero).State) == 1))] {} (TL.next rfl (TC.ret ?_))))))
      have e : skywaykeep2_tracks = (((r3.1[0]?.getD Track.zero).State) == 1) := by subst hr1 hr2 hr3; unfold skywaykeep2_tracks; exact cond_f h1 (cond_t h2 (rfl))
      exact TE.ret [] (.b (((r3.1[0]?.getD Track.zero).State) == 1)) {} (by rw [e]; first | done | kernel_rfl)
    · refine TL.r 15 [] [(0, .b false)] {} (TL.next rfl (TC.ret ?_))
      have e : skywaykeep2_tracks = false := by subst hr1 hr2 hr3; unfold skywaykeep2_tracks; exact cond_f h1 (cond_f h2 (rfl))
      exact TE.ret [] (.b false) {} (by rw [e]; first | done | kernel_rfl)

def slices_Equal_api_Track_api_Track_L1 (s2 : List Track) : List Track → Nat → ((Unit) ⊕ (Bool))
  | [], _ => .inl ()
  | x :: xs, k => cond (!(Track.eqb x (s2[k]?.getD Track.zero))) (
      .inr false) (
      slices_Equal_api_Track_api_Track_L1 s2 xs (k + 1))
def slices_Equal_api_Track_api_Track (s1 : List Track) (s2 : List Track) : Bool :=
  cond ((s1.length : Int) != (s2.length : Int)) (
    false) (
    Sum.elim (fun _ =>
      true) (fun r => r) (slices_Equal_api_Track_api_Track_L1 s2 s1 0))

set_option maxRecDepth 100000 in
theorem slices_Equal_api_Track_api_Track_w (A_s1 : Option Addr) (c_s1 : Nat) (s1 : List Track) (A_s2 : Option Addr) (c_s2 : Nat) (s2 : List Track) (w : World) (h_s1 : Rd w 13 A_s1 (s1.map Track.c)) (_hc_s1 : s1.length ≤ c_s1) (h_s2 : Rd w 13 A_s2 (s2.map Track.c)) (_hc_s2 : s2.length ≤ c_s2) : Calls Try.prog 13 #[.slice A_s1 s1.length c_s1, .slice A_s2 s2.length c_s2] w (Ret w (.bool (slices_Equal_api_Track_api_Track s1 s2))) := by
  have s_s1 := h_s1.short; rw [List.length_map] at s_s1
  have s_s2 := h_s2.short; rw [List.length_map] at s_s2
  refine calls_intro (vs := [.slice A_s1 s1.length c_s1, .slice A_s2 s2.length c_s2]) (w := w) Try.func13 rfl Try.ntmps13 rfl (TC.weak [(0, .slice A_s1 s1.length c_s1), (1, .slice A_s2 s2.length c_s2)] Kr (TC.seq (TC.region (TL.r 1 [] [(4, .b false)] {} (TL.next rfl (TC.seq (TC.seq (TC.region (TL.r 5 [] [(10, .b ((s1.length : Int) != (s2.length : Int)))] {} (TL.next rfl (TC.cond ((s1.length : Int) != (s2.length : Int)) rfl Kr (fun h1 => ?_) (fun h1 => ?_))))))))))))
  · refine TC.seq (TC.region (TL.r 1 [] [(4, .b false)] {} (TL.next rfl (TC.ret (TE.ret_then ?_)))))
    have e : slices_Equal_api_Track_api_Track s1 s2 = false := by unfold slices_Equal_api_Track_api_Track; exact cond_t h1 (rfl)
    exact TE.ret [] (.b false) {} (by rw [e]; first | done | kernel_rfl)
  · refine TC.skip (TE.next (TC.seq (TC.seq (TC.region (TL.r 3 [] [(12, .i (s1.length : Int)), (13, .i 0)] {} (TL.next rfl (TC.weak [(0, .slice A_s1 s1.length c_s1), (1, .slice A_s2 s2.length c_s2), (12, .i (s1.length : Int)), (13, .i 0)] Kr ?_)))))))
    obtain ⟨R1, hR⟩ : ∃ R, R = slices_Equal_api_Track_api_Track_L1 s2 s1 0 := ⟨_, rfl⟩
    refine TC.cut (S := Unit) (fun (_ : Unit) => []) (fun (_ : Unit) => []) (fun (_ : Unit) => R1 = .inl ()) ?_ ?_
    · refine TC.block (TC.loop (X := Nat) (fun k => [(0, .slice A_s1 s1.length c_s1), (1, .slice A_s2 s2.length c_s2), (12, .i (s1.length : Int)), (13, .i (k : Int))]) (fun k => []) (fun k => s1.length - k) (fun k => k ≤ s1.length ∧ R1 = slices_Equal_api_Track_api_Track_L1 s2 (s1.drop k) k) ?_ 0 ⟨Nat.zero_le _, hR⟩)
      rintro k ⟨hk, hI⟩
      refine TC.seq (TC.region (TL.r 1 [] [(14, .b (decide ((k : Int) < (s1.length : Int))))] {} (TL.next rfl (TC.seq (TC.cond (decide ((k : Int) < (s1.length : Int))) rfl Kr (fun h2 => ?_) (fun h2 => ?_))))))
      · have hlt : k < s1.length := by have := of_decide_eq_true h2; first | omega | (simp at this; omega)
        obtain ⟨x, hx⟩ : ∃ e_, s1[k]? = some e_ := ⟨_, List.getElem?_eq_getElem hlt⟩
        have hd := drop_at hx
        refine TC.skip (TE.next (TC.seq (TC.block (TC.seq (TC.region (TL.r 2 [] [(5, .i (k : Int))] {} (TL.next rfl (TC.seq (TC.draw 9 Kr Kr Kr (TQ.r 2 [] [(16, .slice A_s1 s1.length c_s1), (17, .i (k : Int))] {} (TQ.v (sV (Instr.indexAt 39 (.slice A_s1 s1.length c_s1) (.i (k : Int)))) 18 (.pointer (some (Ix A_s1 (k * 13)))) (fun w hM => run_index (h_s1.sat hM) (by simp) Kr (by have q0_ := (bne_f h1); exact sd) (by have q0_ := (bne_f h1); exact sd)) rfl {} (TQ.v (sV (Instr.loadAt 44 (.pointer (some (Ix A_s1 (k * 13)))))) 19 (Track.v x) (fun w hM => run_load_agg (n := 13) (off := 0) (i := k) (Track.v x) (h_s1.sat hM) (map_at hx) Kr Kr Kr) rfl {} (TQ.r 6 [] [(20, .slice A_s2 s2.length c_s2), (21, .i (k : Int))] {} (TQ.v (sV (Instr.indexAt 39 (.slice A_s2 s2.length c_s2) (.i (k : Int)))) 22 (.pointer (some (Ix A_s2 (k * 13)))) (fun w hM => run_index (h_s2.sat hM) (by simp) Kr (by have q0_ := (bne_f h1); exact sd) (by have q0_ := (bne_f h1); exact sd)) rfl {} (TQ.v (sV (Instr.loadAt 44 (.pointer (some (Ix A_s2 (k * 13)))))) 23 (Track.v (s2[k]?.getD Track.zero)) (fun w hM => run_load_agg (n := 13) (off := 0) (i := k) (Track.v (s2[k]?.getD Track.zero)) (h_s2.sat hM) (map_at (getD_at _ _ Track.zero (by have q0_ := (bne_f h1); exact sd))) Kr Kr Kr) rfl {} (TQ.v (sV (do eqGuard .neq 44 (.tmp 19) (.tmp 23) (Track.v x) (Track.v (s2[k]?.getD Track.zero)); binOp .neq 44 (Track.v x) (Track.v (s2[k]?.getD Track.zero)))) 24 (.b (!(Track.eqb x (s2[k]?.getD Track.zero)))) (fun w hM => run_neq (b := Track.eqb x (s2[k]?.getD Track.zero)) Kr Kr w) rfl {} (TQ.next rfl (TC.cond (!(Track.eqb x (s2[k]?.getD Track.zero))) rfl Kr (fun h3 => ?_) (fun h3 => ?_)))))))))))))))))))
        · refine TC.seq (TC.region (TL.r 1 [] [(4, .b false)] {} (TL.next rfl (TC.ret (TE.ret_block (TE.ret_then (TE.ret_then (TE.ret_block (TE.ret_then (TE.ret_then ?_))))))))))
          have e : slices_Equal_api_Track_api_Track s1 s2 = false := by unfold slices_Equal_api_Track_api_Track; exact cond_f h1 (elim_r (hR.symm.trans (hI.trans (by rw [hd]; exact cond_t h3 (rfl)))) rfl)
          exact TE.ret [] (.b false) {} (by rw [e]; first | done | kernel_rfl)
        · exact TC.skip (TE.normal_block (TE.next (TC.region (TL.r 2 [] [(13, .i (w64 ((k : Int) + 1)))] {} (TL.done rfl (TE.rw 13 (.i (w64 ((k : Int) + 1))) (.i ((k + 1 : Nat) : Int)) Kr (w64_cast k (by omega)) (TE.again (x := k) (k + 1) ⟨by omega, hI.trans (by rw [hd]; exact cond_f h3 (rfl))⟩ (by show s1.length - (k + 1) < s1.length - k; omega) Kr (.slnil))))))))
      · have hd : s1.drop k = [] := List.drop_eq_nil_of_le (by have := of_decide_eq_false h2; first | omega | (simp at this; omega))
        refine TC.exit (TE.exit_then (TE.exit_then (TE.exit_same ?_)))
        exact TE.cut () (hI.trans (by rw [hd]; exact rfl)) Kr (.slnil)
    · intro _ hJ
      refine TE.next (TC.seq (TC.region (TL.r 1 [] [(4, .b true)] {} (TL.next rfl (TC.ret ?_)))))
      have e : slices_Equal_api_Track_api_Track s1 s2 = true := by unfold slices_Equal_api_Track_api_Track; exact cond_f h1 (elim_l (hR.symm.trans hJ) (rfl))
      exact TE.ret [] (.b true) {} (by rw [e]; first | done | kernel_rfl)

def slices_Equal_api_FilterTrack_api_FilterTrack_L1 (s2 : List FilterTrack) : List FilterTrack → Nat → ((Unit) ⊕ (Bool))
  | [], _ => .inl ()
  | x :: xs, k => cond (!(FilterTrack.eqb x (s2[k]?.getD FilterTrack.zero))) (
      .inr false) (
      slices_Equal_api_FilterTrack_api_FilterTrack_L1 s2 xs (k + 1))
def slices_Equal_api_FilterTrack_api_FilterTrack (s1 : List FilterTrack) (s2 : List FilterTrack) : Bool :=
  cond ((s1.length : Int) != (s2.length : Int)) (
    false) (
    Sum.elim (fun _ =>
      true) (fun r => r) (slices_Equal_api_FilterTrack_api_FilterTrack_L1 s2 s1 0))

set_option maxRecDepth 100000 in
theorem slices_Equal_api_FilterTrack_api_FilterTrack_w (A_s1 : Option Addr) (c_s1 : Nat) (s1 : List FilterTrack) (A_s2 : Option Addr) (c_s2 : Nat) (s2 : List FilterTrack) (w : World) (h_s1 : Rd w 20 A_s1 (s1.map FilterTrack.c)) (_hc_s1 : s1.length ≤ c_s1) (h_s2 : Rd w 20 A_s2 (s2.map FilterTrack.c)) (_hc_s2 : s2.length ≤ c_s2) : Calls Try.prog 14 #[.slice A_s1 s1.length c_s1, .slice A_s2 s2.length c_s2] w (Ret w (.bool (slices_Equal_api_FilterTrack_api_FilterTrack s1 s2))) := by
  have s_s1 := h_s1.short; rw [List.length_map] at s_s1
  have s_s2 := h_s2.short; rw [List.length_map] at s_s2
  refine calls_intro (vs := [.slice A_s1 s1.length c_s1, .slice A_s2 s2.length c_s2]) (w := w) Try.func14 rfl Try.ntmps14 rfl (TC.weak [(0, .slice A_s1 s1.length c_s1), (1, .slice A_s2 s2.length c_s2)] Kr (TC.seq (TC.region (TL.r 1 [] [(4, .b false)] {} (TL.next rfl (TC.seq (TC.seq (TC.region (TL.r 5 [] [(10, .b ((s1.length : Int) != (s2.length : Int)))] {} (TL.next rfl (TC.cond ((s1.length : Int) != (s2.length : Int)) rfl Kr (fun h1 => ?_) (fun h1 => ?_))))))))))))
  · refine TC.seq (TC.region (TL.r 1 [] [(4, .b false)] {} (TL.next rfl (TC.ret (TE.ret_then ?_)))))
    have e : slices_Equal_api_FilterTrack_api_FilterTrack s1 s2 = false := by unfold slices_Equal_api_FilterTrack_api_FilterTrack; exact cond_t h1 (rfl)
    exact TE.ret [] (.b false) {} (by rw [e]; first | done | kernel_rfl)
  · refine TC.skip (TE.next (TC.seq (TC.seq (TC.region (TL.r 3 [] [(12, .i (s1.length : Int)), (13, .i 0)] {} (TL.next rfl (TC.weak [(0, .slice A_s1 s1.length c_s1), (1, .slice A_s2 s2.length c_s2), (12, .i (s1.length : Int)), (13, .i 0)] Kr ?_)))))))
    obtain ⟨R1, hR⟩ : ∃ R, R = slices_Equal_api_FilterTrack_api_FilterTrack_L1 s2 s1 0 := ⟨_, rfl⟩
    refine TC.cut (S := Unit) (fun (_ : Unit) => []) (fun (_ : Unit) => []) (fun (_ : Unit) => R1 = .inl ()) ?_ ?_
    · refine TC.block (TC.loop (X := Nat) (fun k => [(0, .slice A_s1 s1.length c_s1), (1, .slice A_s2 s2.length c_s2), (12, .i (s1.length : Int)), (13, .i (k : Int))]) (fun k => []) (fun k => s1.length - k) (fun k => k ≤ s1.length ∧ R1 = slices_Equal_api_FilterTrack_api_FilterTrack_L1 s2 (s1.drop k) k) ?_ 0 ⟨Nat.zero_le _, hR⟩)
      rintro k ⟨hk, hI⟩
      refine TC.seq (TC.region (TL.r 1 [] [(14, .b (decide ((k : Int) < (s1.length : Int))))] {} (TL.next rfl (TC.seq (TC.cond (decide ((k : Int) < (s1.length : Int))) rfl Kr (fun h2 => ?_) (fun h2 => ?_))))))
      · have hlt : k < s1.length := by have := of_decide_eq_true h2; first | omega | (simp at this; omega)
        obtain ⟨x, hx⟩ : ∃ e_, s1[k]? = some e_ := ⟨_, List.getElem?_eq_getElem hlt⟩
        have hd := drop_at hx
        refine TC.skip (TE.next (TC.seq (TC.block (TC.seq (TC.region (TL.r 2 [] [(5, .i (k : Int))] {} (TL.next rfl (TC.seq (TC.draw 9 Kr Kr Kr (TQ.r 2 [] [(16, .slice A_s1 s1.length c_s1), (17, .i (k : Int))] {} (TQ.v (sV (Instr.indexAt 46 (.slice A_s1 s1.length c_s1) (.i (k : Int)))) 18 (.pointer (some (Ix A_s1 (k * 20)))) (fun w hM => run_index (h_s1.sat hM) (by simp) Kr (by have q0_ := (bne_f h1); exact sd) (by have q0_ := (bne_f h1); exact sd)) rfl {} (TQ.v (sV (Instr.loadAt 48 (.pointer (some (Ix A_s1 (k * 20)))))) 19 (FilterTrack.v x) (fun w hM => run_load_agg (n := 20) (off := 0) (i := k) (FilterTrack.v x) (h_s1.sat hM) (map_at hx) Kr Kr Kr) rfl {} (TQ.r 6 [] [(20, .slice A_s2 s2.length c_s2), (21, .i (k : Int))] {} (TQ.v (sV (Instr.indexAt 46 (.slice A_s2 s2.length c_s2) (.i (k : Int)))) 22 (.pointer (some (Ix A_s2 (k * 20)))) (fun w hM => run_index (h_s2.sat hM) (by simp) Kr (by have q0_ := (bne_f h1); exact sd) (by have q0_ := (bne_f h1); exact sd)) rfl {} (TQ.v (sV (Instr.loadAt 48 (.pointer (some (Ix A_s2 (k * 20)))))) 23 (FilterTrack.v (s2[k]?.getD FilterTrack.zero)) (fun w hM => run_load_agg (n := 20) (off := 0) (i := k) (FilterTrack.v (s2[k]?.getD FilterTrack.zero)) (h_s2.sat hM) (map_at (getD_at _ _ FilterTrack.zero (by have q0_ := (bne_f h1); exact sd))) Kr Kr Kr) rfl {} (TQ.v (sV (do eqGuard .neq 48 (.tmp 19) (.tmp 23) (FilterTrack.v x) (FilterTrack.v (s2[k]?.getD FilterTrack.zero)); binOp .neq 48 (FilterTrack.v x) (FilterTrack.v (s2[k]?.getD FilterTrack.zero)))) 24 (.b (!(FilterTrack.eqb x (s2[k]?.getD FilterTrack.zero)))) (fun w hM => run_neq (b := FilterTrack.eqb x (s2[k]?.getD FilterTrack.zero)) Kr Kr w) rfl {} (TQ.next rfl (TC.cond (!(FilterTrack.eqb x (s2[k]?.getD FilterTrack.zero))) rfl Kr (fun h3 => ?_) (fun h3 => ?_)))))))))))))))))))
        · refine TC.seq (TC.region (TL.r 1 [] [(4, .b false)] {} (TL.next rfl (TC.ret (TE.ret_block (TE.ret_then (TE.ret_then (TE.ret_block (TE.ret_then (TE.ret_then ?_))))))))))
          have e : slices_Equal_api_FilterTrack_api_FilterTrack s1 s2 = false := by unfold slices_Equal_api_FilterTrack_api_FilterTrack; exact cond_f h1 (elim_r (hR.symm.trans (hI.trans (by rw [hd]; exact cond_t h3 (rfl)))) rfl)
          exact TE.ret [] (.b false) {} (by rw [e]; first | done | kernel_rfl)
        · exact TC.skip (TE.normal_block (TE.next (TC.region (TL.r 2 [] [(13, .i (w64 ((k : Int) + 1)))] {} (TL.done rfl (TE.rw 13 (.i (w64 ((k : Int) + 1))) (.i ((k + 1 : Nat) : Int)) Kr (w64_cast k (by omega)) (TE.again (x := k) (k + 1) ⟨by omega, hI.trans (by rw [hd]; exact cond_f h3 (rfl))⟩ (by show s1.length - (k + 1) < s1.length - k; omega) Kr (.slnil))))))))
      · have hd : s1.drop k = [] := List.drop_eq_nil_of_le (by have := of_decide_eq_false h2; first | omega | (simp at this; omega))
        refine TC.exit (TE.exit_then (TE.exit_then (TE.exit_same ?_)))
        exact TE.cut () (hI.trans (by rw [hd]; exact rfl)) Kr (.slnil)
    · intro _ hJ
      refine TE.next (TC.seq (TC.region (TL.r 1 [] [(4, .b true)] {} (TL.next rfl (TC.ret ?_)))))
      have e : slices_Equal_api_FilterTrack_api_FilterTrack s1 s2 = true := by unfold slices_Equal_api_FilterTrack_api_FilterTrack; exact cond_f h1 (elim_l (hR.symm.trans hJ) (rfl))
      exact TE.ret [] (.b true) {} (by rw [e]; first | done | kernel_rfl)

end Go.Sky
