/- Functions of the program, each with the Lean function that it computes. Conditions: none. -/
import Derived.Test.YtngnagndhikafaaDoorFe
import Derived.Test.YtngnagndhikafaaDoorBackB
import Derived.Test.YtngnagndhikafaaDoorThr
namespace Go.Sky
open Go Go.Eng Go.Proofs
def wire_Scan_L1 : Nat → ByteArray → (List WireFrame) → Int → Option ((Unit) ⊕ ((List WireFrame) × Int × ByteArray × Int))
  | 0, _, _, _ => none
  | m + 1, s_2, out, lost => let r1 := wire_Decode s_2
    cond (r1.2.2 == 0) (
      wire_Scan_L1 m ((s_2).extract r1.2.1.toNat ((s_2).size)) (out ++ [r1.1]) lost) (
      cond (r1.2.2 == 8) (
        some (.inr (out, lost, s_2, 0))) (
        wire_Scan_L1 m ((s_2).extract 1 ((s_2).size)) out (w64 (lost + 1))))
def wire_Scan (s : ByteArray) : List WireFrame × Int × ByteArray × Int :=
  cond (decide ((s.size : Int) > 131072)) (
    ([], 0, (⟨#[]⟩ : ByteArray), 2)) (
    Sum.elim (fun _ =>
      default) (fun r => r) ((wire_Scan_L1 (s.size + 1) s ([] : List WireFrame) 0).getD (.inl ())))

theorem scan_sz {s : ByteArray} {r : WireFrame × Int × Int} (h : wire_Decode s = r) (h2 : (r.2.2 == 0) = true) : 11 ≤ r.2.1 ∧ r.2.1 ≤ (s.size : Int) := by
  subst h
  rcases dec_cases s with ⟨e, h, hn⟩ | ⟨n, xs, hd, h⟩
  · rw [h] at h2
    exact absurd (by simpa using h2) hn
  · rw [h]
    have := hd.n0
    have := hd.long
    exact ⟨by show 11 ≤ 11 + 16 * n; omega, hd.long⟩
theorem scan_one {s : ByteArray} {r : WireFrame × Int × Int} (h : wire_Decode s = r) (h3 : (r.2.2 == 8) = false) : 1 ≤ s.size := by
  rcases Nat.eq_zero_or_pos s.size with h0 | h0
  · subst h
    have := dec_short (s := s) (fun h => by omega) (fun h => by omega) (fun h => by omega)
    rw [this] at h3
    cases h3
  · exact h0
theorem scan_total : ∀ (n : Nat) (s : ByteArray) (lost : Int) (out : List WireFrame), s.size ≤ n → ∃ R, wire_Scan_L1 (n + 1) s out lost = some R
  | n, s, lost, out, hn => by
    unfold wire_Scan_L1
    dsimp only
    generalize hr : wire_Decode s = r
    cases h2 : (r.2.2 == 0)
    · cases h3 : (r.2.2 == 8)
      · have := scan_one hr h3
        obtain ⟨m, rfl⟩ : ∃ m, n = m + 1 := ⟨n - 1, by omega⟩
        exact scan_total m _ _ _ (by rw [ByteArray.size_extract]; omega)
      · exact ⟨_, rfl⟩
    · have := scan_sz hr h2
      obtain ⟨m, rfl⟩ : ∃ m, n = m + 1 := ⟨n - 1, by omega⟩
      exact scan_total m _ _ _ (by rw [ByteArray.size_extract]; omega)

set_option maxRecDepth 100000 in
theorem wire_Scan_w (s : ByteArray) (w : World) : Calls Tryd.prog 7 #[.string s] w (RetM (Γ := ((Option Addr × Nat) × List (WireFrameR))) (cx w) (fun g => .tuple #[.slice g.1.1 ((wire_Scan s).1.length) g.1.2, .int .i64 ((wire_Scan s).2.1), .string ((wire_Scan s).2.2.1), .int .i64 ((wire_Scan s).2.2.2)]) (fun g => [.inr (Fact ((wire_Scan s).1 = g.2.map WireFrameR.p)), .inr (Own g.1.1 g.1.2 27 3 (g.2.map WireFrameR.c)), .inr (Bag 46 6 Plot.c (g.2.map WireFrameR.Plots))])) := by
  refine calls_intro (vs := [.string s]) (w := w) Tryd.func7 rfl Tryd.ntmps7 rfl (TC.sr (TL.r 4 [] [(2, .slice none 0 0), (3, .i 0), (4, .string (⟨#[]⟩ : ByteArray)), (5, .i 0)] {} (TL.ns (TC.sr (TL.r 3 [] [(13, .b (decide ((s.size : Int) > 131072)))] {} (TL.next rfl (TC.cond (decide ((s.size : Int) > 131072)) rfl Kr (fun h1 => ?_) (fun h1 => ?_))))))))
  · refine TC.sr (TL.r 4 [] [(2, .slice none 0 0), (3, .i 0), (4, .string (⟨#[]⟩ : ByteArray)), (5, .i 2)] {} (TL.next rfl (TC.ret (TE.rt ?_))))
    have e : wire_Scan s = ([], 0, (⟨#[]⟩ : ByteArray), 2) := by unfold wire_Scan; exact cond_t h1 (rfl)
    refine TE.conv [Ow none 0 27 3 (([] : List WireFrameR).map WireFrameR.c), .inr (Bag 46 6 Plot.c (([] : List WireFrameR).map WireFrameR.Plots))] (fun _ hM => (hM.bag_nil 46 6 Plot.c).emptyrow none 27 3) ?_
    rw [e]
    exact TE.retM (.inl rfl) ((none, 0), ([] : List WireFrameR)) [] (.tuple #[.slice none 0 0, .i 0, .string (⟨#[]⟩ : ByteArray), .i 2]) {} rfl (fun _ hM => (hM.sub (sb 3)).fact rfl)
  · have q1_0 := (dec_f h1)
    refine TC.snr (TL.r 1 [] [(6, .slice none 0 0)] {} (TL.nr (TL.r 1 [] [(7, .i 0)] {} (TL.next rfl (TC.conv [Ow none 0 27 3 (([] : List WireFrameR).map WireFrameR.c), .inr (Bag 46 6 Plot.c (([] : List WireFrameR).map WireFrameR.Plots))] (fun _ hM => (hM.bag_nil 46 6 Plot.c).emptyrow none 27 3) ?_)))))
    obtain ⟨R3, hR⟩ : ∃ R, wire_Scan_L1 (s.size + 1) s ([] : List WireFrame) 0 = some R := scan_total s.size s 0 [] (Nat.le_refl _)
    refine TC.cut (S := Unit) (fun _ => []) (fun _ => []) (fun _ => False) ?_ ?_
    · refine TC.block (TC.lw (X := Nat × ByteArray × (List WireFrame) × Int × (Option Addr) × Nat × (List WireFrameR)) (fun (m, s_2, out, lost, A_out, c_out, o_out) => [(0, .string s_2), (6, .slice A_out out.length c_out), (7, .i lost)]) (fun (m, s_2, out, lost, A_out, c_out, o_out) => [Ow A_out c_out 27 3 (o_out.map WireFrameR.c), .inr (Bag 46 6 Plot.c (o_out.map WireFrameR.Plots))]) (fun (m, s_2, out, lost, A_out, c_out, o_out) => m) (fun (m, s_2, out, lost, A_out, c_out, o_out) => m ≤ (s.size + 1) ∧ wire_Scan_L1 m s_2 out lost = some R3 ∧ out.length ≤ ((s.size + 1) - m) ∧ (out = o_out.map WireFrameR.p) ∧ (s_2.size ≤ 131072)) ?_ (s.size + 1, s, ([] : List WireFrame), 0, none, 0, ([] : List WireFrameR)) ⟨Nat.le_refl _, hR, sz, rfl, (by omega)⟩ Kr (sb 3))
      rintro ⟨m, s_2, out, lost, A_out, c_out, o_out⟩ ⟨hk, hI, hl_out, hl_he_out, hl_sz⟩
      rcases m with _ | m
      · cases hI
      refine TC.block (TC.sr (TL.r 1 [] [(15, .string s_2)] {} (TL.cn (Γ := AN) 16 (wire_Decode s_2) (fun r1 g => .tuple #[.agg #[.i r1.1.Radar, .i r1.1.Time, .slice g.1 r1.1.Plots.length g.2], .i r1.2.1, .i r1.2.2]) (fun r1 g => [Ow g.1 g.2 46 6 (r1.1.Plots.map Plot.c)]) (fun w _ => wire_Decode_w s_2 w (by omega)) {} (fun r1 hr1 => ?_))))
      rintro ⟨A, c⟩
      refine TL.know (fun w hM => hM.short_at 0 rfl) (fun s_r1_0 => TL.r 6 [] [(17, .agg #[.i r1.1.Radar, .i r1.1.Time, .slice A r1.1.Plots.length c]), (18, .i r1.2.1), (19, .i r1.2.2)] {} (TL.nw 8 (fun b1 => .p0 b1) (fun b1 => Bk b1 #[.i 0, .i 0, .slice none 0 0] 27) (fun b1 => {}) (fun b1 => TL.s 0 (Bk b1 #[.i r1.1.Radar, .i r1.1.Time, .slice A r1.1.Plots.length c] 27) (fun _ => {}) (TL.r 10 [] [(9, .i r1.2.1), (10, .i r1.2.2)] {} (TL.nr (TL.r 1 [] [(20, .i r1.2.2)] {} (TL.next rfl (TC.block (TC.sr (TL.r 2 [] [(25, .b (r1.2.2 == 0))] {} (TL.next rfl (TC.cond (r1.2.2 == 0) rfl Kr (fun h2 => ?_) (fun h2 => ?_)))))))))))))
      · have q2_0 := (beq_t h2)
        refine TC.sr (TL.r 2 [0] [(27, .slice A_out out.length c_out), (28, .agg #[.i r1.1.Radar, .i r1.1.Time, .slice A r1.1.Plots.length c])] {} (TL.nw 29 (fun b2 => .slice (Pa b2) 1 1) (fun b2 => Bk b2 #[.i r1.1.Radar, .i r1.1.Time, .slice A r1.1.Plots.length c] 27) (fun b2 => {}) (fun b2 => TL.rw 27 (.slice A_out out.length c_out) (.slice A_out o_out.length c_out) Kr (by rw [dl_len' hl_he_out]) (TL.opM (Γ := AN) (sV (Builtin.append_ #[22, 22] 22 #[.slice A_out o_out.length c_out, .slice (Pa b2) 1 1])) (some 30) (fun g => .slice g.1 (o_out ++ [(⟨r1.1.Radar, r1.1.Time, (⟨A, c, r1.1.Plots⟩ : Sl Plot)⟩ : WireFrameR)]).length g.2) (fun g => [Bk b2 #[.i r1.1.Radar, .i r1.1.Time, .slice A r1.1.Plots.length c] 27, Bk b1 #[.i r1.1.Radar, .i r1.1.Time, .slice A r1.1.Plots.length c] 27, Ow A c 46 6 (r1.1.Plots.map Plot.c), Ow g.1 g.2 27 3 ((o_out ++ [(⟨r1.1.Radar, r1.1.Time, (⟨A, c, r1.1.Plots⟩ : Sl Plot)⟩ : WireFrameR)]).map WireFrameR.c), .inr (Bag 46 6 Plot.c (o_out.map WireFrameR.Plots))]) (fun g => [(0, .string s_2), (7, .i lost), (9, .i r1.2.1), (30, .slice g.1 ((o_out ++ [(⟨r1.1.Radar, r1.1.Time, (⟨A, c, r1.1.Plots⟩ : Sl Plot)⟩ : WireFrameR)]).length) g.2)]) (app_at (bytes := 40) 22 3 [(⟨r1.1.Radar, r1.1.Time, (⟨A, c, r1.1.Plots⟩ : Sl Plot)⟩ : WireFrameR)] Kr rfl rfl WireFrameR.one rfl (fun w hM => (Rd.lit hM 0 _ rfl Kr Kr Kr)) rfl (by have hz_ := dl_len' hl_he_out; rw [← hz_]; exact (by (try have kz_ := scan_sz hr1 h2); (try have ko_ := scan_one hr1 h3); exact sa))) Kr (fun g => Kr) ?_))))
        rintro ⟨A_2, c_2⟩
        exact TL.rw 30 (.slice A_2 ((o_out ++ [(⟨r1.1.Radar, r1.1.Time, (⟨A, c, r1.1.Plots⟩ : Sl Plot)⟩ : WireFrameR)]).length) c_2) (.slice A_2 ((out ++ [r1.1]).length) c_2) Kr (by rw [← dl_len' (dl_app (s := (⟨r1.1.Radar, r1.1.Time, (⟨A, c, r1.1.Plots⟩ : Sl Plot)⟩ : WireFrameR)) (x := r1.1) hl_he_out rfl)]) (TL.conv [.inr (Bag 46 6 Plot.c ((o_out ++ [(⟨r1.1.Radar, r1.1.Time, (⟨A, c, r1.1.Plots⟩ : Sl Plot)⟩ : WireFrameR)]).map WireFrameR.Plots)), Bk b2 #[.i r1.1.Radar, .i r1.1.Time, .slice A r1.1.Plots.length c] 27, Bk b1 #[.i r1.1.Radar, .i r1.1.Time, .slice A r1.1.Plots.length c] 27, Ow A_2 c_2 27 3 ((o_out ++ [(⟨r1.1.Radar, r1.1.Time, (⟨A, c, r1.1.Plots⟩ : Sl Plot)⟩ : WireFrameR)]).map WireFrameR.c)] (fun _ hM => Sat.bag_addm (f := WireFrameR.Plots) (⟨r1.1.Radar, r1.1.Time, (⟨A, c, r1.1.Plots⟩ : Sl Plot)⟩ : WireFrameR) (hM.perm (((List.Perm.cons _ ((List.Perm.cons _ (List.Perm.refl _)).trans (List.Perm.swap _ _ _))).trans (List.Perm.swap _ _ _)).trans (List.Perm.cons _ (((List.Perm.cons _ ((List.Perm.cons _ ((List.Perm.cons _ (List.Perm.refl _)).trans (List.Perm.swap _ _ _))).trans (List.Perm.swap _ _ _))).trans (List.Perm.swap _ _ _)).trans (List.Perm.cons _ (List.Perm.refl _))))))) (TL.conv [Ow A_2 c_2 27 3 ((o_out ++ [(⟨r1.1.Radar, r1.1.Time, (⟨A, c, r1.1.Plots⟩ : Sl Plot)⟩ : WireFrameR)]).map WireFrameR.c), .inr (Bag 46 6 Plot.c ((o_out ++ [(⟨r1.1.Radar, r1.1.Time, (⟨A, c, r1.1.Plots⟩ : Sl Plot)⟩ : WireFrameR)]).map WireFrameR.Plots)), Bk b2 #[.i r1.1.Radar, .i r1.1.Time, .slice A r1.1.Plots.length c] 27, Bk b1 #[.i r1.1.Radar, .i r1.1.Time, .slice A r1.1.Plots.length c] 27] (fun _ hM => hM.perm (px [3, 0, 1, 2])) (TL.r 5 [] [(6, .slice A_2 ((out ++ [r1.1]).length) c_2)] {} (TL.next rfl (TC.region (TL.r 2 [] [(31, .string s_2), (32, .i r1.2.1)] {} (TL.v (sV (Instr.sliceAt 9 (.string s_2) (some (.i r1.2.1)) none none)) 33 (.string ((s_2).extract r1.2.1.toNat ((s_2).size))) (fun w hM => run_str_slice r1.2.1.toNat ((s_2).size) Kr (.inr ⟨_, _, rfl, (by (try have kz_ := scan_sz hr1 h2); (try have ko_ := scan_one hr1 h3); first | omega | (simp only [ByteArray.size_extract, size_strOf]; omega) | (simp only [w64_eq]; omega)), rfl⟩) (.inl ⟨rfl, rfl⟩) (by (try have kz_ := scan_sz hr1 h2); (try have ko_ := scan_one hr1 h3); first | omega | (simp only [ByteArray.size_extract, size_strOf]; omega) | (simp only [w64_eq]; omega)) (by (try have kz_ := scan_sz hr1 h2); (try have ko_ := scan_one hr1 h3); first | omega | (simp only [ByteArray.size_extract, size_strOf]; omega) | (simp only [w64_eq]; omega))) {} (TL.r 4 [] [(0, .string ((s_2).extract r1.2.1.toNat ((s_2).size)))] {} (TL.done rfl (TE.nb (TE.nb (TE.again (x := (m + 1, s_2, out, lost, A_out, c_out, o_out)) (m, (s_2).extract r1.2.1.toNat ((s_2).size), (out ++ [r1.1]), lost, A_2, c_2, (o_out ++ [(⟨r1.1.Radar, r1.1.Time, (⟨A, c, r1.1.Plots⟩ : Sl Plot)⟩ : WireFrameR)])) ⟨by omega, (by subst hr1; refine Eq.trans (Eq.symm ?_) hI; exact cond_t h2 (rfl)), (by (try have kz_ := scan_sz hr1 h2); (try have ko_ := scan_one hr1 h3); exact sl), (dl_app (s := (⟨r1.1.Radar, r1.1.Time, (⟨A, c, r1.1.Plots⟩ : Sl Plot)⟩ : WireFrameR)) (x := r1.1) hl_he_out rfl), (by rw [ByteArray.size_extract]; omega)⟩ (Nat.lt_succ_self _) Kr (sb 3)))))))))))))
      · have q2_0 := (beq_f h2)
        refine TC.sr (TL.r 2 [] [(34, .b (r1.2.2 == 8))] {} (TL.next rfl (TC.cond (r1.2.2 == 8) rfl Kr (fun h3 => ?_) (fun h3 => ?_))))
        · refine TC.sr (TL.r 7 [] [(2, .slice A_out out.length c_out), (3, .i lost), (4, .string s_2), (5, .i 0)] {} (TL.next rfl (TC.ret (TE.rb (TE.rb (TE.rt (TE.rb (TE.rt ?_))))))))
          have e : wire_Scan s = (out, lost, s_2, 0) := by subst hr1; unfold wire_Scan; exact cond_f h1 (elim_r ((congrArg (Option.getD · _) hR).trans (Option.some.inj (hI.symm.trans (cond_f h2 (cond_t h3 (rfl)))))) rfl)
          rw [e]
          exact TE.retM (.inl rfl) ((A_out, c_out), o_out) [] (.tuple #[.slice A_out out.length c_out, .i lost, .string s_2, .i 0]) {} rfl (fun _ hM => (hM.sub (sb 12)).fact hl_he_out)
        · have q3_0 := (beq_f h3)
          exact TC.sr (TL.r 3 [] [(7, .i (w64 (lost + 1)))] {} (TL.next rfl (TC.region (TL.r 1 [] [(23, .string s_2)] {} (TL.v (sV (Instr.sliceAt 9 (.string s_2) (some (.i 1)) none none)) 24 (.string ((s_2).extract 1 ((s_2).size))) (fun w hM => run_str_slice 1 ((s_2).size) Kr (.inr ⟨_, _, rfl, (by (try have kz_ := scan_sz hr1 h2); (try have ko_ := scan_one hr1 h3); first | omega | (simp only [ByteArray.size_extract, size_strOf]; omega) | (simp only [w64_eq]; omega)), rfl⟩) (.inl ⟨rfl, rfl⟩) (by (try have kz_ := scan_sz hr1 h2); (try have ko_ := scan_one hr1 h3); first | omega | (simp only [ByteArray.size_extract, size_strOf]; omega) | (simp only [w64_eq]; omega)) (by (try have kz_ := scan_sz hr1 h2); (try have ko_ := scan_one hr1 h3); first | omega | (simp only [ByteArray.size_extract, size_strOf]; omega) | (simp only [w64_eq]; omega))) {} (TL.r 3 [] [(0, .string ((s_2).extract 1 ((s_2).size)))] {} (TL.done rfl (TE.nb (TE.nb (TE.again (x := (m + 1, s_2, out, lost, A_out, c_out, o_out)) (m, (s_2).extract 1 ((s_2).size), out, w64 (lost + 1), A_out, c_out, o_out) ⟨by omega, (by subst hr1; refine Eq.trans (Eq.symm ?_) hI; exact cond_f h2 (cond_f h3 (rfl))), (by (try have kz_ := scan_sz hr1 h2); (try have ko_ := scan_one hr1 h3); exact sl), hl_he_out, (by rw [ByteArray.size_extract]; omega)⟩ (Nat.lt_succ_self _) Kr (sb 12)))))))))))
    · exact fun _ hf_ => hf_.elim

def EqualFunc_frame_L1 (s2 : List WireFrame) : List WireFrame → Nat → ((Unit) ⊕ (Bool))
  | [], _ => .inl ()
  | x :: xs, k => let r1 := skywaykeep2_sameFrame x (s2[k]?.getD WireFrame.zero)
    cond (!r1) (
      .inr false) (
      EqualFunc_frame_L1 s2 xs (k + 1))
def EqualFunc_frame (s1 : List WireFrame) (s2 : List WireFrame) : Bool :=
  cond ((s1.length : Int) != (s2.length : Int)) (
    false) (
    Sum.elim (fun _ =>
      true) (fun r => r) (EqualFunc_frame_L1 s2 s1 0))

set_option maxRecDepth 100000 in
theorem EqualFunc_frame_w (A_s1 : Option Addr) (c_s1 : Nat) (s1 : List WireFrame) (o_s1 : List (WireFrameR)) (A_s2 : Option Addr) (c_s2 : Nat) (s2 : List WireFrame) (o_s2 : List (WireFrameR)) (w : World) (h_s1 : Rd w 3 A_s1 (o_s1.map WireFrameR.c)) (_hc_s1 : s1.length ≤ c_s1) (hd_s1 : ∀ s ∈ (o_s1.map WireFrameR.Plots), s.rd w 6 Plot.c) (he_s1 : s1 = o_s1.map WireFrameR.p) (h_s2 : Rd w 3 A_s2 (o_s2.map WireFrameR.c)) (_hc_s2 : s2.length ≤ c_s2) (hd_s2 : ∀ s ∈ (o_s2.map WireFrameR.Plots), s.rd w 6 Plot.c) (he_s2 : s2 = o_s2.map WireFrameR.p) : Calls Tryd.prog 8 #[.slice A_s1 s1.length c_s1, .slice A_s2 s2.length c_s2, .func (.func 9) #[] #[]] w (Ret w (.bool (EqualFunc_frame s1 s2))) := by
  have s_s1 := h_s1.short; rw [← dl_len he_s1] at s_s1
  have s_s2 := h_s2.short; rw [← dl_len he_s2] at s_s2
  refine calls_intro (vs := [.slice A_s1 s1.length c_s1, .slice A_s2 s2.length c_s2, .func (.func 9) #[] #[]]) (w := w) Tryd.func8 rfl Tryd.ntmps8 rfl (TC.sr (TL.r 1 [] [(6, .b false)] {} (TL.ns (TC.sr (TL.r 5 [] [(14, .b ((s1.length : Int) != (s2.length : Int)))] {} (TL.next rfl (TC.cond ((s1.length : Int) != (s2.length : Int)) rfl Kr (fun h1 => ?_) (fun h1 => ?_))))))))
  · exact TC.sr (TL.r 1 [] [(6, .b false)] {} (TL.next rfl (TC.ret (TE.rt (TE.ret [] (.b false) {} (by unfold EqualFunc_frame; refine eS (fun z => (.b z : Value)) ?_; exact cond_t h1 (rfl)))))))
  · have q1_0 := (bne_f h1)
    refine TC.sn (TC.seq (TC.sr (TL.r 3 [] [(15, .slice A_s1 s1.length c_s1), (16, .i (s1.length : Int)), (17, .i 0)] {} (TL.next rfl ?_))))
    obtain ⟨R1, hR⟩ : ∃ R, R = EqualFunc_frame_L1 s2 s1 0 := ⟨_, rfl⟩
    refine TC.cut (S := Unit) (fun (_ : Unit) => []) (fun (_ : Unit) => []) (fun (_ : Unit) => R1 = .inl ()) ?_ ?_
    · refine TC.block (TC.lw (X := Nat) (fun k => [(1, .slice A_s2 s2.length c_s2), (2, .func (.func 9) #[] #[]), (15, .slice A_s1 s1.length c_s1), (16, .i (s1.length : Int)), (17, .i (k : Int))]) (fun k => []) (fun k => s1.length - k) (fun k => k ≤ s1.length ∧ R1 = EqualFunc_frame_L1 s2 (s1.drop k) k) ?_ 0 ⟨Nat.zero_le _, hR⟩ Kr (sb 0))
      rintro k ⟨hk, hI⟩
      refine TC.sr (TL.r 1 [] [(18, .b (decide ((k : Int) < (s1.length : Int))))] {} (TL.ns (TC.cond (decide ((k : Int) < (s1.length : Int))) rfl Kr (fun h2 => ?_) (fun h2 => ?_))))
      · have hlt := ltN h2
        obtain ⟨x, hx⟩ := elN hlt
        have hd := drop_at hx
        refine TC.sn (TC.seq (TC.block (TC.sr (TL.r 1 [] [(19, .i (k : Int))] {} (TL.v (sV (Instr.indexAt 22 (.slice A_s1 s1.length c_s1) (.i (k : Int)))) 20 (.pointer (some (Ix A_s1 (k * 3)))) (fun w hM => run_index (h_s1.sat hM) (dl_len he_s1) Kr sd sd) {} ?_)))))
        have s_s1 := (el_rd (dl_all (S := WireFrameR.Plots) (z := WireFrameR.zero) rfl hd_s1 k) (congrArg WireFrame.Plots (dl_at (z := WireFrameR.zero) he_s1 hx))).short; rw [List.length_map] at s_s1
        refine TL.v (sV (Instr.loadAt 27 (.pointer (some (Ix A_s1 (k * 3)))))) 21 (.agg #[.i x.Radar, .i x.Time, .slice ((o_s1[k]?.getD WireFrameR.zero).Plots.A) x.Plots.length ((o_s1[k]?.getD WireFrameR.zero).Plots.cap)]) (fun w hM => run_load_agg (n := 3) (off := 0) (i := k) (.agg #[.i x.Radar, .i x.Time, .slice ((o_s1[k]?.getD WireFrameR.zero).Plots.A) x.Plots.length ((o_s1[k]?.getD WireFrameR.zero).Plots.cap)]) (h_s1.sat hM) ((map_at (getD_at _ _ WireFrameR.zero (dl_lt he_s1 (List.getElem?_eq_some_iff.1 hx).1))).trans (congrArg some (WireFrameR.c_at (dl_at (z := WireFrameR.zero) he_s1 hx)))) Kr Kr Kr) {} ?_
        refine TL.nw 8 (fun b1 => .p0 b1) (fun b1 => Bk b1 #[.i 0, .i 0, .slice none 0 0] 27) (fun b1 => {}) (fun b1 => TL.r 5 [] [(7, .i (k : Int))] {} (TL.s 0 (Bk b1 #[.i x.Radar, .i x.Time, .slice ((o_s1[k]?.getD WireFrameR.zero).Plots.A) x.Plots.length ((o_s1[k]?.getD WireFrameR.zero).Plots.cap)] 27) (fun _ => {}) (TL.nr (TL.r 2 [] [(22, .slice A_s2 s2.length c_s2), (23, .i (k : Int))] {} (TL.v (sV (Instr.indexAt 22 (.slice A_s2 s2.length c_s2) (.i (k : Int)))) 24 (.pointer (some (Ix A_s2 (k * 3)))) (fun w hM => run_index (h_s2.sat hM) (dl_len he_s2) Kr sd sd) {} ?_)))))
        have s_s2 := (el_rd (dl_all (S := WireFrameR.Plots) (z := WireFrameR.zero) rfl hd_s2 k) (congrArg WireFrame.Plots (dl_get (z := WireFrameR.zero) he_s2 k))).short; rw [List.length_map] at s_s2
        refine TL.v (sV (Instr.loadAt 27 (.pointer (some (Ix A_s2 (k * 3)))))) 25 (.agg #[.i ((s2[k]?.getD WireFrame.zero).Radar), .i ((s2[k]?.getD WireFrame.zero).Time), .slice ((o_s2[k]?.getD WireFrameR.zero).Plots.A) ((s2[k]?.getD WireFrame.zero).Plots.length) ((o_s2[k]?.getD WireFrameR.zero).Plots.cap)]) (fun w hM => run_load_agg (n := 3) (off := 0) (i := k) (.agg #[.i ((s2[k]?.getD WireFrame.zero).Radar), .i ((s2[k]?.getD WireFrame.zero).Time), .slice ((o_s2[k]?.getD WireFrameR.zero).Plots.A) ((s2[k]?.getD WireFrame.zero).Plots.length) ((o_s2[k]?.getD WireFrameR.zero).Plots.cap)]) (h_s2.sat hM) ((map_at (getD_at _ _ WireFrameR.zero (dl_lt he_s2 sd))).trans (congrArg some (WireFrameR.c_at (dl_get (z := WireFrameR.zero) he_s2 k)))) Kr Kr Kr) {} (TL.nw 9 (fun b2 => .p0 b2) (fun b2 => Bk b2 #[.i 0, .i 0, .slice none 0 0] 27) (fun b2 => {}) (fun b2 => TL.s 0 (Bk b2 #[.i ((s2[k]?.getD WireFrame.zero).Radar), .i ((s2[k]?.getD WireFrame.zero).Time), .slice ((o_s2[k]?.getD WireFrameR.zero).Plots.A) ((s2[k]?.getD WireFrame.zero).Plots.length) ((o_s2[k]?.getD WireFrameR.zero).Plots.cap)] 27) (fun _ => {}) (TL.nr (TL.r 3 [1, 0] [(26, .func (.func 9) #[] #[]), (27, .agg #[.i x.Radar, .i x.Time, .slice ((o_s1[k]?.getD WireFrameR.zero).Plots.A) x.Plots.length ((o_s1[k]?.getD WireFrameR.zero).Plots.cap)]), (28, .agg #[.i ((s2[k]?.getD WireFrame.zero).Radar), .i ((s2[k]?.getD WireFrame.zero).Time), .slice ((o_s2[k]?.getD WireFrameR.zero).Plots.A) ((s2[k]?.getD WireFrame.zero).Plots.length) ((o_s2[k]?.getD WireFrameR.zero).Plots.cap)])] {} (TL.c 29 (skywaykeep2_sameFrame x (s2[k]?.getD WireFrame.zero)) (fun r1 => .b r1) (fun w hM => skywaykeep2_sameFrame_w x ((o_s1[k]?.getD WireFrameR.zero).Plots.A) ((o_s1[k]?.getD WireFrameR.zero).Plots.cap) (s2[k]?.getD WireFrame.zero) ((o_s2[k]?.getD WireFrameR.zero).Plots.A) ((o_s2[k]?.getD WireFrameR.zero).Plots.cap) w (el_rd ((dl_all (S := WireFrameR.Plots) (z := WireFrameR.zero) rfl hd_s1 k).sat hM) (congrArg WireFrame.Plots (dl_at (z := WireFrameR.zero) he_s1 hx))) (el_le ((dl_all (S := WireFrameR.Plots) (z := WireFrameR.zero) rfl hd_s1 k).sat hM) (congrArg WireFrame.Plots (dl_at (z := WireFrameR.zero) he_s1 hx))) (el_rd ((dl_all (S := WireFrameR.Plots) (z := WireFrameR.zero) rfl hd_s2 k).sat hM) (congrArg WireFrame.Plots (dl_get (z := WireFrameR.zero) he_s2 k))) (el_le ((dl_all (S := WireFrameR.Plots) (z := WireFrameR.zero) rfl hd_s2 k).sat hM) (congrArg WireFrame.Plots (dl_get (z := WireFrameR.zero) he_s2 k)))) {} (fun r1 hr1 => TL.r 5 [] [(30, .b (!r1))] {} (TL.next rfl (TC.cond (!r1) rfl Kr (fun h3 => ?_) (fun h3 => ?_)))))))))
        · refine TC.sr (TL.r 1 [] [(6, .b false)] {} (TL.next rfl (TC.ret (TE.rb (TE.rt (TE.rt (TE.rb (TE.rt (TE.rt ?_)))))))))
          exact TE.ret [] (.b false) {} (by unfold EqualFunc_frame; refine eS (fun z => (.b z : Value)) ?_; subst hr1; exact cond_f h1 (elim_r (hR.symm.trans (hI.trans (by rw [hd]; exact cond_t h3 (rfl)))) rfl))
        · exact TC.skip (TE.nb (TE.next (TC.region (TL.r 2 [] [(17, .i (w64 ((k : Int) + 1)))] {} (TL.done rfl (TE.rw 17 (.i (w64 ((k : Int) + 1))) (.i ((k + 1 : Nat) : Int)) Kr (w64_cast k (by omega)) (TE.again (x := k) (k + 1) ⟨by omega, hI.trans (by subst hr1; rw [hd]; exact cond_f h3 (rfl))⟩ (mN hlt) Kr (sb 0))))))))
      · have hd := dropN h2
        refine TC.exit (TE.et (TE.et (TE.exit_same ?_)))
        exact TE.cut () (hI.trans (by rw [hd]; exact rfl)) Kr (sb 0)
    · intro _ hJ
      exact TE.nr (TL.r 1 [] [(6, .b true)] {} (TL.next rfl (TC.ret (TE.ret [] (.b true) {} (by unfold EqualFunc_frame; refine eS (fun z => (.b z : Value)) ?_; exact cond_f h1 (elim_l (hR.symm.trans hJ) (rfl)))))))

end Go.Sky
