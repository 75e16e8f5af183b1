/- Lemmas toward the given statement (part 20 of 21): Tl TLive RadT Rad RadLaw TFly BiasLaw. Each theorem states its own conditions; nothing is assumed beyond them. -/
import Derived.Test.YtjggkpkehdnhiaaGreatDoorBi11
import Derived.Test.YtjggkpkehdnhiaaGreatDoorBi19
import Derived.Test.YtjggkpkehdnhiaaGreatDoorBi18
import Derived.Test.YtjggkpkehdnhiaaGreatDoorBi02
section
namespace Go.Sky
open Go Go.Eng Go.Proofs
def skywaytop_bRadars:List RadarSite :=
  [(⟨1,⟨(-20000),0⟩,400000,50,2⟩:RadarSite),(⟨2,⟨30000,40000⟩,400000,80,3⟩:RadarSite)]
set_option maxRecDepth 100000 in
theorem skywaytop_bRadars_w (w:World):Calls Tryz.prog 22 #[] w (RetM (Γ:=(Option Addr × Nat)) (cx w) (fun g=>.slice g.1 ((skywaytop_bRadars).length) g.2) (fun g=>[.inr (Own g.1 g.2 85 6 ((skywaytop_bRadars).map RadarSite.c))])):=by
  refine calls_intro (vs:=[]) (w:=w) Tryz.func22 rfl Tryz.ntmps22 rfl (TC.sr (TL.r 1 [] [(0,.slice none 0 0)] {} (TL.nr (TL.r 4 [] [(2,RadarSite.v (⟨1,⟨(-20000),0⟩,400000,50,2⟩:RadarSite)),(4,RadarSite.v (⟨2,⟨30000,40000⟩,400000,80,3⟩:RadarSite))] {} (TL.nw 5 (fun b1=>.slice (Pa b1) 2 2) (fun b1=>Bk b1 #[.i 1,.i (-20000),.i 0,.i 400000,.i 50,.i 2,.i 2,.i 30000,.i 40000,.i 400000,.i 80,.i 3] 85) (fun b1=>{}) (fun b1=>TL.r 6 [] [(0,.slice (Pa b1) 2 2)] {} (TL.next rfl (TC.ret ?_))))))))
  have e:skywaytop_bRadars=([(⟨1,⟨(-20000),0⟩,400000,50,2⟩:RadarSite),(⟨2,⟨30000,40000⟩,400000,80,3⟩:RadarSite)]):=by unfold skywaytop_bRadars;exact rfl
  refine TE.conv [Ow (Pa b1) 2 85 6 (([(⟨1,⟨(-20000),0⟩,400000,50,2⟩:RadarSite),(⟨2,⟨30000,40000⟩,400000,80,3⟩:RadarSite)]:List RadarSite).map RadarSite.c)] (fun _ hM=>by exact hM.litrow 0 (([(⟨1,⟨(-20000),0⟩,400000,50,2⟩:RadarSite),(⟨2,⟨30000,40000⟩,400000,80,3⟩:RadarSite)]:List RadarSite).map RadarSite.c) rfl Kr Kr Kr Kr) ?_
  rw [e]
  exact TE.retM (.inl rfl) ((Pa b1),2) [] (.slice (Pa b1) 2 2) {} rfl (fun _ hM=>hM.sub (sb 1))
def skywaytop_TopBias_L2 (r4:Int) (r5:Int) (r6:Int) (r7:List RadarSite) (k:Nat):List bFlight → Nat → (List Plot) → (List Plot) → ((List Plot × List Plot) ⊕ (Bool))
  | [],_,truth_3,seen_3=>.inl (truth_3,seen_3)
  | x :: xs,k_2,truth_3,seen_3=>let r8:=skywaytop_bFlight_place x (w64 (4 * (k:Int)))
    let r9:=radar_Plot (r7[0]?.getD RadarSite.zero) (⟨w64 (4 * (k:Int)),r8,x.height,x.code,0⟩:Spot)
    cond (r9.2 != 0) (
      .inr false) (
      let r10:=bias_Apply r9.1 (⟨r4,r5,r6⟩:BiasOffset)
      cond (r10.2 != 0) (
        .inr true) (
        skywaytop_TopBias_L2 r4 r5 r6 r7 k xs (k_2 + 1) (truth_3 ++ ([r9.1])) (seen_3 ++ ([r10.1]))))
def skywaytop_TopBias_L1 (r1:List bFlight) (r4:Int) (r5:Int) (r6:Int) (r7:List RadarSite):Nat → Nat → (List Plot) → (List Plot) → ((List Plot × List Plot) ⊕ (Bool))
  | 0,_,truth,seen=>.inl (truth,seen)
  | m + 1,k,truth,seen=>Sum.elim (fun (truth_4,seen_4) =>
      skywaytop_TopBias_L1 r1 r4 r5 r6 r7 m (k + 1) truth_4 seen_4) (fun r=>.inr r) (skywaytop_TopBias_L2 r4 r5 r6 r7 k r1 0 truth seen)
def skywaytop_TopBias_L3 (r1:List bFlight) (r7:List RadarSite) (r11:BiasOffset × Int):List Plot → Nat → ((Unit) ⊕ (Bool))
  | [],_=>.inl ()
  | x_2 :: xs,k_3=>let r12:=bias_Correct x_2 r11.1
    let r13:=radar_Spot (r7[0]?.getD RadarSite.zero) r12.1
    let r14:=skywaytop_bFlight_place (r1[((k_3:Int).tmod (r1.length:Int)).toNat]?.getD bFlight.zero) (w64 (4 * (w64 ((k_3:Int).tdiv (r1.length:Int)))))
    cond ((r12.2 != 0) || (r13.2 != 0)) (
      .inr false) (
      let r15:=skywaytop_bSquare r13.1.At r14
      cond (decide (r15 > (w64 (r13.1.Error * r13.1.Error)))) (
        .inr false) (
        skywaytop_TopBias_L3 r1 r7 r11 xs (k_3 + 1)))
def skywaytop_TopBias (l:List Int) (o:BiasOffset):Bool :=
  let r1:=skywaytop_bFlights l
  let r2:=skywaytop_bLives
  cond ((!r2) || ((r1.length:Int) == 0)) (
    let r3:=skywaytop_bLives
    r3) (
    let r4:=skywaytop_bWithin o.Range (-900) 900
    let r5:=skywaytop_bWithin o.Azimuth (-50) 50
    let r6:=skywaytop_bWithin o.Time 0 5
    let r7:=skywaytop_bRadars
    Sum.elim (fun (truth_2,seen_2) =>
      let r11:=bias_Estimate truth_2 seen_2
      cond (r11.2 != 0) (
        false) (
        cond (!(BiasOffset.eqb r11.1 (⟨r4,r5,r6⟩:BiasOffset))) (
          false) (
          Sum.elim (fun _ =>
            true) (fun r=>r) (skywaytop_TopBias_L3 r1 r7 r11 seen_2 0)))) (fun r=>r) (skywaytop_TopBias_L1 r1 r4 r5 r6 r7 ((5:Int).toNat) 0 ([]:List Plot) ([]:List Plot)))
theorem flights_len1 (l:List Int):∀ (m k:Nat) (out:List bFlight),(skywaytop_bFlights_L1 l m k out).length=out.length + m
  | 0,_,_=>rfl
  | m + 1,k,out=>by
    unfold skywaytop_bFlights_L1
    dsimp only
    rw [flights_len1 l m (k + 1),List.length_append,List.length_singleton];omega
theorem flights_len {l:List Int} {r:List bFlight} (h:skywaytop_bFlights l=r):r.length ≤ 3:=by
  subst h
  have:=flights_len1 l (min (l.length / 4) 3) 0 []
  show (skywaytop_bFlights_L1 l (min (l.length / 4) 3) 0 []).length ≤ 3
  rw [this,List.length_nil];omega
set_option maxHeartbeats 4000000 in
set_option maxRecDepth 100000 in
theorem skywaytop_TopBias_w (A_l:Option Addr) (c_l:Nat) (l:List Int) (o:BiasOffset) (w:World) (h_l:Rd w 1 A_l (l.map ic)) (hc_l:l.length ≤ c_l) (hT:Tabs w):Calls Tryz.prog 8 #[.slice A_l l.length c_l,BiasOffset.v o] w (Ret w (.bool (skywaytop_TopBias l o))):=by
  have s_l:=h_l.short;rw [List.length_map] at s_l
  refine calls_intro (vs:=[.slice A_l l.length c_l,BiasOffset.v o]) (w:=w) Tryz.func8 rfl Tryz.ntmps8 rfl (TC.sr (TL.nw 3 (fun b1=>.p0 b1) (fun b1=>Bk b1 (BiasOffset.c o) 104) (fun b1=>{}) (fun b1=>TL.r 2 [] [(4,.b false)] {} (TL.nr (TL.r 1 [] [(24,.slice A_l l.length c_l)] {} (TL.cn (Γ:=AN) 25 (skywaytop_bFlights l) (fun r1 g=>.slice g.1 r1.length g.2) (fun r1 g=>[Ow g.1 g.2 38 6 (r1.map bFlight.c)]) (fun w hM=>skywaytop_bFlights_w A_l c_l l w (h_l.sat hM) hc_l) {} (fun r1 hr1=>?_)))))))
  have kf_:=flights_len hr1
  rintro ⟨A,c⟩
  refine TL.know (fun w hM=>hM.short_at 0 rfl) (fun s_r1_0=>TL.r 3 [] [(5,.slice A r1.length c)] {} (TL.ns (TC.sr (TL.c 26 (skywaytop_bLives) (fun r2=>.b r2) (fun w _=>skywaytop_bLives_w w) {} (fun r2 hr2=>TL.r 3 [] [(28,.b (!r2))] {} (TL.j 28 (!r2) 7 [] [] (fun β=>[(32,.b (β || ((r1.length:Int) == 0)))]) Kr {} {} (TL.next rfl (TC.cond ((!r2) || ((r1.length:Int) == 0)) rfl Kr (fun h1=>?_) (fun h1=>?_)))))))))
  · exact TC.sr (TL.c 33 (skywaytop_bLives) (fun r3=>.b r3) (fun w _=>skywaytop_bLives_w w) {} (fun r3 hr3=>TL.r 2 [] [(4,.b r3)] {} (TL.next rfl (TC.ret (TE.rt (TE.ret [] (.b r3) {} (by unfold skywaytop_TopBias;refine eS (fun z=>(.b z:Value)) ?_;subst hr1 hr2 hr3;exact cond_t h1 (rfl))))))))
  · have q1_0:=(beq_f (or_f2 h1))
    refine TC.sn (TC.seq (TC.drawTail 10 Kr Kr (TQ.r 2 [1] [(35,.i o.Range)] {} (TQ.c 36 (skywaytop_bWithin o.Range (-900) 900) (fun r4=>.i r4) (fun w _=>skywaytop_bWithin_w o.Range (-900) 900 w (by first | omega | first | decide | omega | (simp only [w64_eq];omega) | (simp <;> omega))) rfl {} (fun r4 hr4=>TQ.r 5 [1] [(38,.i o.Azimuth)] {} (TQ.c 39 (skywaytop_bWithin o.Azimuth (-50) 50) (fun r5=>.i r5) (fun w _=>skywaytop_bWithin_w o.Azimuth (-50) 50 w (by first | omega | first | decide | omega | (simp only [w64_eq];omega) | (simp <;> omega))) rfl {} (fun r5 hr5=>TQ.r 8 [1] [(41,.i o.Time)] {} (TQ.c 42 (skywaytop_bWithin o.Time 0 5) (fun r6=>.i r6) (fun w _=>skywaytop_bWithin_w o.Time 0 5 w (by first | omega | first | decide | omega | (simp only [w64_eq];omega) | (simp <;> omega))) rfl {} (fun r6 hr6=>TQ.r 10 [] [(43,BiasOffset.v (⟨r4,r5,r6⟩:BiasOffset))] {} (TQ.tail rfl (TL.s 1 (Bk b1 (BiasOffset.c (⟨r4,r5,r6⟩:BiasOffset)) 104) (fun _=>{}) (TL.nr (TL.cn (Γ:=AN) 44 (skywaytop_bRadars) (fun r7 g=>.slice g.1 r7.length g.2) (fun r7 g=>[Ow g.1 g.2 85 6 (r7.map RadarSite.c)]) (fun w _=>skywaytop_bRadars_w w) {} (fun r7 hr7=>?_))))))))))))))
    have kr_:r7.length=2:=by rw [← hr7];rfl
    rintro ⟨A_2,c_2⟩
    refine TL.know (fun w hM=>hM.short_at 0 rfl) (fun s_r7_0=>TL.v (sV (Instr.indexAt 55 (.slice A_2 r7.length c_2) (.i 0))) 45 (.pointer (some (Ix A_2 (0 * 6)))) (fun w hM=>run_index (hM.rd_at 0 rfl) (by simp) Kr sdr sdr) {} (TL.v (sV (Instr.loadAt 85 (.pointer (some (Ix A_2 (0 * 6)))))) 46 (RadarSite.v (r7[0]?.getD RadarSite.zero)) (fun w hM=>run_load_agg (n:=6) (off:=0) (i:=0) (RadarSite.v (r7[0]?.getD RadarSite.zero)) (hM.rd_at 0 rfl) (map_at (getD_at _ _ RadarSite.zero sdr)) Kr Kr Kr) {} (TL.nw 6 (fun b2=>.p0 b2) (fun b2=>Bk b2 (RadarSite.c RadarSite.zero) 85) (fun b2=>{}) (fun b2=>TL.s 0 (Bk b2 (RadarSite.c (r7[0]?.getD RadarSite.zero)) 85) (fun _=>{}) (TL.nr (TL.r 2 [] [(7,.slice none 0 0),(8,.slice none 0 0)] {} (TL.ns (TC.sr (TL.r 1 [] [(47,.i 0)] {} (TL.next rfl (TC.conv [Ow none 0 89 6 (([]:List Plot).map Plot.c),Bk b2 (RadarSite.c (r7[0]?.getD RadarSite.zero)) 85,Ow A_2 c_2 85 6 (r7.map RadarSite.c),Ow A c 38 6 (r1.map bFlight.c),Bk b1 (BiasOffset.c (⟨r4,r5,r6⟩:BiasOffset)) 104] (fun _ hM=>hM.emptyrow none 89 6) (TC.conv [Ow none 0 89 6 (([]:List Plot).map Plot.c),Ow none 0 89 6 (([]:List Plot).map Plot.c),Bk b2 (RadarSite.c (r7[0]?.getD RadarSite.zero)) 85,Ow A_2 c_2 85 6 (r7.map RadarSite.c),Ow A c 38 6 (r1.map bFlight.c),Bk b1 (BiasOffset.c (⟨r4,r5,r6⟩:BiasOffset)) 104] (fun _ hM=>hM.emptyrow none 89 6) ?_))))))))))))
    obtain ⟨R3,hR⟩:∃ R,R=skywaytop_TopBias_L1 r1 r4 r5 r6 r7 ((5:Int).toNat) 0 ([]:List Plot) ([]:List Plot):=⟨_,rfl⟩
    refine TC.cut (S:=(List Plot) × (List Plot) × (Option Addr) × Nat × (Option Addr) × Nat) (fun (truth_2,seen_2,A_truth_2,c_truth_2,A_seen_2,c_seen_2)=>[(3,.p0 b1),(5,.slice A r1.length c),(6,.p0 b2),(7,.slice A_truth_2 truth_2.length c_truth_2),(8,.slice A_seen_2 seen_2.length c_seen_2)]) (fun (truth_2,seen_2,A_truth_2,c_truth_2,A_seen_2,c_seen_2)=>[Ow A_seen_2 c_seen_2 89 6 (seen_2.map Plot.c),Ow A_truth_2 c_truth_2 89 6 (truth_2.map Plot.c),Bk b2 (RadarSite.c (r7[0]?.getD RadarSite.zero)) 85,Ow A c 38 6 (r1.map bFlight.c),Bk b1 (BiasOffset.c (⟨r4,r5,r6⟩:BiasOffset)) 104]) (fun (truth_2,seen_2,A_truth_2,c_truth_2,A_seen_2,c_seen_2)=>R3=.inl (truth_2,seen_2) ∧ truth_2.length ≤ 3 * ((5:Int).toNat) ∧ seen_2.length ≤ 3 * ((5:Int).toNat)) ?_ ?_
    · refine TC.block (TC.lw (X:=Nat × (List Plot) × (List Plot) × (Option Addr) × Nat × (Option Addr) × Nat) (fun (k,truth,seen,A_truth,c_truth,A_seen,c_seen)=>[(3,.p0 b1),(5,.slice A r1.length c),(6,.p0 b2),(7,.slice A_truth truth.length c_truth),(8,.slice A_seen seen.length c_seen),(47,.i (k:Int))]) (fun (k,truth,seen,A_truth,c_truth,A_seen,c_seen)=>[Ow A_seen c_seen 89 6 (seen.map Plot.c),Ow A_truth c_truth 89 6 (truth.map Plot.c),Bk b2 (RadarSite.c (r7[0]?.getD RadarSite.zero)) 85,Ow A c 38 6 (r1.map bFlight.c),Bk b1 (BiasOffset.c (⟨r4,r5,r6⟩:BiasOffset)) 104]) (fun (k,truth,seen,A_truth,c_truth,A_seen,c_seen)=>(5:Int).toNat - k) (fun (k,truth,seen,A_truth,c_truth,A_seen,c_seen)=>k ≤ (5:Int).toNat ∧ R3=skywaytop_TopBias_L1 r1 r4 r5 r6 r7 ((5:Int).toNat - k) k truth seen ∧ truth.length ≤ 3 * k ∧ seen.length ≤ 3 * k) ?_ (0,([]:List Plot),([]:List Plot),none,0,none,0) ⟨Nat.zero_le _,hR,sz,sz⟩ Kr (sb 55))
      rintro ⟨k,truth,seen,A_truth,c_truth,A_seen,c_seen⟩ ⟨hk,hI,hl_truth,hl_seen⟩
      refine TC.sr (TL.r 1 [] [(48,.b (decide ((k:Int) < 5)))] {} (TL.ns (TC.cond (decide ((k:Int) < 5)) rfl Kr (fun h2=>?_) (fun h2=>?_))))
      · have hlt:k < (5:Int).toNat:=by have:=of_decide_eq_true h2;first | omega | (simp at this;omega)
        have hd:(5:Int).toNat - k=((5:Int).toNat - (k + 1)) + 1:=by omega
        refine TC.sn (TC.seq (TC.block (TC.sr (TL.r 2 [] [(9,.i (k:Int))] {} (TL.nr (TL.r 3 [] [(50,.slice A r1.length c),(51,.i (r1.length:Int)),(52,.i 0)] {} (TL.next rfl ?_)))))))
        obtain ⟨R4,hR_2⟩:∃ R,R=skywaytop_TopBias_L2 r4 r5 r6 r7 k r1 0 truth seen:=⟨_,rfl⟩
        refine TC.cut (S:=(List Plot) × (List Plot) × (Option Addr) × Nat × (Option Addr) × Nat) (fun (truth_4,seen_4,A_truth_4,c_truth_4,A_seen_4,c_seen_4)=>[(3,.p0 b1),(5,.slice A r1.length c),(6,.p0 b2),(7,.slice A_truth_4 truth_4.length c_truth_4),(8,.slice A_seen_4 seen_4.length c_seen_4),(47,.i (k:Int))]) (fun (truth_4,seen_4,A_truth_4,c_truth_4,A_seen_4,c_seen_4)=>[Ow A_seen_4 c_seen_4 89 6 (seen_4.map Plot.c),Ow A_truth_4 c_truth_4 89 6 (truth_4.map Plot.c),Bk b2 (RadarSite.c (r7[0]?.getD RadarSite.zero)) 85,Ow A c 38 6 (r1.map bFlight.c),Bk b1 (BiasOffset.c (⟨r4,r5,r6⟩:BiasOffset)) 104]) (fun (truth_4,seen_4,A_truth_4,c_truth_4,A_seen_4,c_seen_4)=>R4=.inl (truth_4,seen_4) ∧ truth_4.length ≤ truth.length + r1.length ∧ seen_4.length ≤ seen.length + r1.length) ?_ ?_
        · refine TC.block (TC.lw (X:=Nat × (List Plot) × (List Plot) × (Option Addr) × Nat × (Option Addr) × Nat) (fun (k_2,truth_3,seen_3,A_truth_3,c_truth_3,A_seen_3,c_seen_3)=>[(3,.p0 b1),(5,.slice A r1.length c),(6,.p0 b2),(7,.slice A_truth_3 truth_3.length c_truth_3),(8,.slice A_seen_3 seen_3.length c_seen_3),(9,.i (k:Int)),(47,.i (k:Int)),(50,.slice A r1.length c),(51,.i (r1.length:Int)),(52,.i (k_2:Int))]) (fun (k_2,truth_3,seen_3,A_truth_3,c_truth_3,A_seen_3,c_seen_3)=>[Ow A_seen_3 c_seen_3 89 6 (seen_3.map Plot.c),Ow A_truth_3 c_truth_3 89 6 (truth_3.map Plot.c),Bk b2 (RadarSite.c (r7[0]?.getD RadarSite.zero)) 85,Ow A c 38 6 (r1.map bFlight.c),Bk b1 (BiasOffset.c (⟨r4,r5,r6⟩:BiasOffset)) 104]) (fun (k_2,truth_3,seen_3,A_truth_3,c_truth_3,A_seen_3,c_seen_3)=>r1.length - k_2) (fun (k_2,truth_3,seen_3,A_truth_3,c_truth_3,A_seen_3,c_seen_3)=>k_2 ≤ r1.length ∧ R4=skywaytop_TopBias_L2 r4 r5 r6 r7 k (r1.drop k_2) k_2 truth_3 seen_3 ∧ truth_3.length ≤ truth.length + k_2 ∧ seen_3.length ≤ seen.length + k_2) ?_ (0,truth,seen,A_truth,c_truth,A_seen,c_seen) ⟨Nat.zero_le _,hR_2,sz,sz⟩ Kr (sb 31))
          rintro ⟨k_2,truth_3,seen_3,A_truth_3,c_truth_3,A_seen_3,c_seen_3⟩ ⟨hk_2,hI_2,hl_truth_3,hl_seen_3⟩
          refine TC.sr (TL.r 1 [] [(53,.b (decide ((k_2:Int) < (r1.length:Int))))] {} (TL.ns (TC.cond (decide ((k_2:Int) < (r1.length:Int))) rfl Kr (fun h3=>?_) (fun h3=>?_))))
          · have hlt_2:=ltN h3
            obtain ⟨x,hx_2⟩:=elN hlt_2
            have hd_2:=drop_at hx_2
            refine TC.sn (TC.seq (TC.block (TC.sr (TL.v (sV (Instr.indexAt 23 (.slice A r1.length c) (.i (k_2:Int)))) 54 (.pointer (some (Ix A (k_2 * 6)))) (fun w hM=>run_index (hM.rd_at 3 rfl) (by simp) Kr sdr sdr) {} (TL.v (sV (Instr.loadAt 38 (.pointer (some (Ix A (k_2 * 6)))))) 55 (bFlight.v x) (fun w hM=>run_load_agg (n:=6) (off:=0) (i:=k_2) (bFlight.v x) (hM.rd_at 3 rfl) (map_at hx_2) Kr Kr Kr) {} (TL.nw 11 (fun b3=>.p0 b3) (fun b3=>Bk b3 (bFlight.c bFlight.zero) 38) (fun b3=>{}) (fun b3=>TL.s 0 (Bk b3 (bFlight.c x) 38) (fun _=>{}) (TL.ns ?_))))))))
            obtain ⟨r8,hr8⟩:∃ r,skywaytop_bFlight_place x (w64 (4 * (k:Int)))=r:=⟨_,rfl⟩
            obtain ⟨r9,hr9⟩:∃ r,radar_Plot (r7[0]?.getD RadarSite.zero) (⟨w64 (4 * (k:Int)),r8,x.height,x.code,0⟩:Spot)=r:=⟨_,rfl⟩
            let Mr13_:Mem:=[Bk b3 (bFlight.c x) 38,Ow A_seen_3 c_seen_3 89 6 (seen_3.map Plot.c),Ow A_truth_3 c_truth_3 89 6 (truth_3.map Plot.c),Bk b2 (RadarSite.c (r7[0]?.getD RadarSite.zero)) 85,Ow A c 38 6 (r1.map bFlight.c),Bk b1 (BiasOffset.c (⟨r4,r5,r6⟩:BiasOffset)) 104]
            refine TC.plan (G:=Nat) (base:=[(3,.p0 b1),(5,.slice A r1.length c),(6,.p0 b2),(7,.slice A_truth_3 truth_3.length c_truth_3),(8,.slice A_seen_3 seen_3.length c_seen_3),(9,.i (k:Int)),(11,.p0 b3),(47,.i (k:Int)),(50,.slice A r1.length c),(51,.i (r1.length:Int)),(52,.i (k_2:Int))]) (vals:=fun γ=>[RadarSite.v (r7[0]?.getD RadarSite.zero),.i (k:Int),.i (w64 (4 * (k:Int))),bFlight.v x,.i (k:Int),.i (w64 (4 * (k:Int))),P.v r8,.pt b3 4,.i x.height,.pt b3 5,.i x.code,Spot.v (⟨w64 (4 * (k:Int)),r8,x.height,x.code,0⟩:Spot),.tuple #[Plot.v r9.1,.i r9.2],.tuple #[Plot.v r9.1,.i r9.2],Plot.v r9.1,.i r9.2,.p0 γ,undef,.i r9.2]) (writes:=[16,17]) (mem:=fun bs γ=>match bs with | [x16_,x17_]=>(bif x17_ then [Bk γ (Plot.c r9.1) 89] else bif x16_ then [Bk γ (Plot.c Plot.zero) 89] else []) ++ (Mr13_) | _=>[]) (0) (fun γ=>[(3,.p0 b1),(5,.slice A r1.length c),(6,.p0 b2),(7,.slice A_truth_3 truth_3.length c_truth_3),(8,.slice A_seen_3 seen_3.length c_seen_3),(9,.i (k:Int)),(12,.p0 γ),(13,.i r9.2),(47,.i (k:Int)),(50,.slice A r1.length c),(51,.i (r1.length:Int)),(52,.i (k_2:Int))]) Kr Kr Kr Kr Kr (fun γ=>Kr) (fun _ hM=>hM) (fun γ=>Kr) ?_ ?_
            · skip
              exact Steps.run (i:=0) 6 [3,0,0,0,0,0] Mr13_ Kr Kr (fun S (γ:Nat) w hM=>by rw [mS2 rfl rfl] at hM;exact hM.sub (sub_skip (List.Sublist.refl _))) Kr (fun (γ:Nat)=>{}) (Steps.call (i:=6) 16 (fun (γ:Nat)=>#[bFlight.v x,.i (w64 (4 * (k:Int)))]) (some 63) (fun (γ:Nat)=>P.v r8) (fun (γ:Nat)=>[Bk b3 (bFlight.c x) 38,Ow A_seen_3 c_seen_3 89 6 (seen_3.map Plot.c),Ow A_truth_3 c_truth_3 89 6 (truth_3.map Plot.c),Bk b2 (RadarSite.c (r7[0]?.getD RadarSite.zero)) 85,Ow A c 38 6 (r1.map bFlight.c),Bk b1 (BiasOffset.c (⟨r4,r5,r6⟩:BiasOffset)) 104]) Kr (fun S (γ:Nat) w _ hM=>by rw [mS2 rfl rfl] at hM;exact hM.sub (sub_skip (List.Sublist.refl _))) (fun (γ:Nat) w _=>by have h:=skywaytop_bFlight_place_w x (w64 (4 * (k:Int))) w;rw [hr8] at h;exact h) (fun (γ:Nat)=>Kr) (fun (γ:Nat)=>Kr) (Steps.run (i:=7) 12 [0,0,0,0,0] Mr13_ Kr Kr (fun S (γ:Nat) w hM=>by rw [mS2 rfl rfl] at hM;exact hM.sub (sub_skip (List.Sublist.refl _))) Kr (fun (γ:Nat)=>{}) (Steps.call (i:=12) 32 (fun (γ:Nat)=>#[RadarSite.v (r7[0]?.getD RadarSite.zero),Spot.v (⟨w64 (4 * (k:Int)),r8,x.height,x.code,0⟩:Spot)]) (some 69) (fun (γ:Nat)=>.tuple #[Plot.v r9.1,.i r9.2]) (fun (γ:Nat)=>[Bk b3 (bFlight.c x) 38,Ow A_seen_3 c_seen_3 89 6 (seen_3.map Plot.c),Ow A_truth_3 c_truth_3 89 6 (truth_3.map Plot.c),Bk b2 (RadarSite.c (r7[0]?.getD RadarSite.zero)) 85,Ow A c 38 6 (r1.map bFlight.c),Bk b1 (BiasOffset.c (⟨r4,r5,r6⟩:BiasOffset)) 104]) Kr (fun S (γ:Nat) w _ hM=>by rw [mS2 rfl rfl] at hM;exact hM.sub (sub_skip (List.Sublist.refl _))) (fun (γ:Nat) w hM=>by have h:=radar_Plot_w (r7[0]?.getD RadarSite.zero) (⟨w64 (4 * (k:Int)),r8,x.height,x.code,0⟩:Spot) w (hT.sat hM);rw [hr9] at h;exact h) (fun (γ:Nat)=>Kr) (fun (γ:Nat)=>Kr) (Steps.run (i:=13) 16 [0,0,0] Mr13_ Kr Kr (fun S (γ:Nat) w hM=>by rw [mS2 rfl rfl] at hM;exact hM.sub (sub_skip (List.Sublist.refl _))) Kr (fun (γ:Nat)=>{}) (Steps.op (i:=16) (Γ:=Nat) (fun g (γ:Nat)=>g) (fun _=>[]) (fun b (γ:Nat)=>[Bk b (Plot.c Plot.zero) 89]) (fun S (γ:Nat)=>Mr13_) [16,17,18] (fun (γ:Nat)=>sV (Instr.alloc 89 true (.tuple #[]))) (some 12) (fun b (γ:Nat)=>.p0 b) (fun S (γ:Nat) hj hd hl=>by rw [mS2 hj (hl 17 Kr)];exact List.Perm.refl _) (fun S (γ:Nat) g hl=>by rw [mS2 (S:=upS S 16) (a0:=16) (a1:=17) rfl (hl 17 Kr)];exact (List.Perm.refl _).symm) (fun (γ:Nat) M' w hM=>run_new (v:=fun b=>.p0 b) (fun b M=>Kr) M' w hM) (fun (γ:Nat)=>Kr) (fun (γ:Nat) g=>Kr) Kr (fun (γ:Nat) g=>Kr) (Steps.put (i:=17) (fun (γ:Nat)=>[Bk γ (Plot.c Plot.zero) 89]) (fun (γ:Nat)=>[Bk γ (Plot.c r9.1) 89]) (fun S (γ:Nat)=>Mr13_) (fun (γ:Nat)=>sU (Instr.storeAt 89 (.p0 γ) (Plot.v r9.1))) none (fun S (γ:Nat) hj hd hl=>by rw [mS2 (hd 16 Kr) hj];exact List.Perm.refl _) (fun S (γ:Nat) _=>(List.Perm.refl _).symm) (fun (γ:Nat) M' w hM=>run_put (fun b M=>Kr) (fun b M=>Kr) M' w hM) (fun (γ:Nat)=>Kr) (fun (γ:Nat)=>Kr) (Steps.run (i:=18) 19 [0] Mr13_ Kr Kr (fun S (γ:Nat) w hM=>by rw [mS2 rfl rfl] at hM;exact hM.sub (sub_skip (List.Sublist.refl _))) Kr (fun (γ:Nat)=>{}) (Steps.done Kr))))))))
            · rintro b4
              refine TE.conv [Bk b4 (Plot.c r9.1) 89,Bk b3 (bFlight.c x) 38,Ow A_seen_3 c_seen_3 89 6 (seen_3.map Plot.c),Ow A_truth_3 c_truth_3 89 6 (truth_3.map Plot.c),Bk b2 (RadarSite.c (r7[0]?.getD RadarSite.zero)) 85,Ow A c 38 6 (r1.map bFlight.c),Bk b1 (BiasOffset.c (⟨r4,r5,r6⟩:BiasOffset)) 104] (fun _ hM=>hM) (TE.next (TC.seq (TC.sr (TL.r 2 [] [(73,.b (r9.2 != 0))] {} (TL.next rfl (TC.cond (r9.2 != 0) rfl Kr (fun h4=>?_) (fun h4=>?_)))))))
              · refine TC.sr (TL.r 1 [] [(4,.b false)] {} (TL.next rfl (TC.ret (TE.rt (TE.rb (TE.rt (TE.rt (TE.rb (TE.rt (TE.rb (TE.rt (TE.rt (TE.rb (TE.rt (TE.rt ?_)))))))))))))))
                exact TE.ret [] (.b false) {} (by unfold skywaytop_TopBias;refine eS (fun z=>(.b z:Value)) ?_;subst hr1 hr2 hr4 hr5 hr6 hr7 hr8 hr9;exact cond_f h1 (elim_r (hR.symm.trans (hI.trans (by rw [hd];exact elim_r (hR_2.symm.trans (hI_2.trans (by rw [hd_2];exact cond_t h4 (rfl)))) rfl))) rfl))
              · have q4_0:=(bne_f h4)
                refine TC.snr (TL.r 2 [0,6] [(75,Plot.v r9.1),(76,BiasOffset.v (⟨r4,r5,r6⟩:BiasOffset))] {} (TL.c 77 (bias_Apply r9.1 (⟨r4,r5,r6⟩:BiasOffset)) (fun r10=>.tuple #[Plot.v r10.1,.i r10.2]) (fun w _=>bias_Apply_w r9.1 (⟨r4,r5,r6⟩:BiasOffset) w) {} (fun r10 hr10=>TL.r 6 [] [(78,Plot.v r10.1),(79,.i r10.2)] {} (TL.nw 14 (fun b5=>.p0 b5) (fun b5=>Bk b5 (Plot.c Plot.zero) 89) (fun b5=>{}) (fun b5=>TL.s 0 (Bk b5 (Plot.c r10.1) 89) (fun _=>{}) (TL.r 9 [] [(13,.i r10.2)] {} (TL.ns (TC.sr (TL.r 2 [] [(81,.b (r10.2 != 0))] {} (TL.next rfl (TC.cond (r10.2 != 0) rfl Kr (fun h5=>?_) (fun h5=>?_))))))))))))
                · refine TC.sr (TL.r 1 [] [(4,.b true)] {} (TL.next rfl (TC.ret (TE.rt (TE.rb (TE.rt (TE.rt (TE.rb (TE.rt (TE.rb (TE.rt (TE.rt (TE.rb (TE.rt (TE.rt ?_)))))))))))))))
                  exact TE.ret [] (.b true) {} (by unfold skywaytop_TopBias;refine eS (fun z=>(.b z:Value)) ?_;subst hr1 hr2 hr4 hr5 hr6 hr7 hr8 hr9 hr10;exact cond_f h1 (elim_r (hR.symm.trans (hI.trans (by rw [hd];exact elim_r (hR_2.symm.trans (hI_2.trans (by rw [hd_2];exact cond_f h4 (cond_t h5 (rfl))))) rfl))) rfl))
                · have q5_0:=(bne_f h5)
                  refine TC.sn ?_
                  let Mr19_:Mem:=[Bk b5 (Plot.c r10.1) 89,Bk b4 (Plot.c r9.1) 89,Bk b3 (bFlight.c x) 38,Bk b2 (RadarSite.c (r7[0]?.getD RadarSite.zero)) 85,Ow A c 38 6 (r1.map bFlight.c),Bk b1 (BiasOffset.c (⟨r4,r5,r6⟩:BiasOffset)) 104]
                  refine TC.plan (G:=Nat × AN × Nat × AN) (base:=[(3,.p0 b1),(5,.slice A r1.length c),(6,.p0 b2),(7,.slice A_truth_3 truth_3.length c_truth_3),(8,.slice A_seen_3 seen_3.length c_seen_3),(9,.i (k:Int)),(12,.p0 b4),(14,.p0 b5),(47,.i (k:Int)),(50,.slice A r1.length c),(51,.i (r1.length:Int)),(52,.i (k_2:Int))]) (vals:=fun γ=>[.slice A_truth_3 truth_3.length c_truth_3,Plot.v r9.1,.slice (Pa γ.1) 1 1,.slice (γ.2.1.1) ((truth_3 ++ ([r9.1])).length) (γ.2.1.2),.slice A_seen_3 seen_3.length c_seen_3,Plot.v r10.1,.slice (Pa γ.2.2.1) 1 1,.slice (γ.2.2.2.1) ((seen_3 ++ ([r10.1])).length) (γ.2.2.2.2),.slice (γ.2.1.1) ((truth_3 ++ ([r9.1])).length) (γ.2.1.2),.slice (γ.2.2.2.1) ((seen_3 ++ ([r10.1])).length) (γ.2.2.2.2)]) (writes:=[2,3,6,7]) (mem:=fun bs γ=>match bs with | [x2_,x3_,x6_,x7_]=>(bif x2_ then [Bk γ.1 (Plot.c r9.1) 89] else []) ++ ((bif x3_ then [Ow (γ.2.1.1) (γ.2.1.2) 89 6 ((truth_3 ++ ([r9.1])).map Plot.c)] else [Ow A_truth_3 c_truth_3 89 6 (truth_3.map Plot.c)]) ++ ((bif x6_ then [Bk γ.2.2.1 (Plot.c r10.1) 89] else []) ++ ((bif x7_ then [Ow (γ.2.2.2.1) (γ.2.2.2.2) 89 6 ((seen_3 ++ ([r10.1])).map Plot.c)] else [Ow A_seen_3 c_seen_3 89 6 (seen_3.map Plot.c)]) ++ (Mr19_)))) | _=>[]) (0,(none,0),0,(none,0)) (fun γ=>[(3,.p0 b1),(5,.slice A r1.length c),(6,.p0 b2),(7,.slice (γ.2.1.1) ((truth_3 ++ ([r9.1])).length) (γ.2.1.2)),(8,.slice (γ.2.2.2.1) ((seen_3 ++ ([r10.1])).length) (γ.2.2.2.2)),(9,.i (k:Int)),(47,.i (k:Int)),(50,.slice A r1.length c),(51,.i (r1.length:Int)),(52,.i (k_2:Int))]) Kr Kr Kr Kr Kr (fun γ=>Kr) (fun _ hM=>hM.perm (px [4,3,0,1,2,5,6,7])) (fun γ=>Kr) ?_ ?_
                  · skip
                    exact Steps.run (i:=0) 2 [0,1] Mr19_ Kr Kr (fun S (γ:Nat × AN × Nat × AN) w hM=>by rw [mS4 rfl rfl rfl rfl] at hM;exact hM.sub (sub_skip (sub_skip (sub_skip (sub_skip (List.Sublist.refl _)))))) Kr (fun (γ:Nat × AN × Nat × AN)=>{}) (Steps.op (i:=2) (Γ:=Nat) (fun g (γ:Nat × AN × Nat × AN)=>(g,γ.2.1,γ.2.2.1,γ.2.2.2)) (fun _=>[]) (fun b (γ:Nat × AN × Nat × AN)=>[Bk b (Plot.c r9.1) 89]) (fun S (γ:Nat × AN × Nat × AN)=>(bif S 3 then [Ow (γ.2.1.1) (γ.2.1.2) 89 6 ((truth_3 ++ ([r9.1])).map Plot.c)] else [Ow A_truth_3 c_truth_3 89 6 (truth_3.map Plot.c)]) ++ ((bif S 6 then [Bk γ.2.2.1 (Plot.c r10.1) 89] else []) ++ ((bif S 7 then [Ow (γ.2.2.2.1) (γ.2.2.2.2) 89 6 ((seen_3 ++ ([r10.1])).map Plot.c)] else [Ow A_seen_3 c_seen_3 89 6 (seen_3.map Plot.c)]) ++ (Mr19_)))) [2,3,7,8,9] (fun (γ:Nat × AN × Nat × AN)=>sV (Instr.buildSlice 83 1 #[(0,Plot.v r9.1)])) (some 84) (fun b (γ:Nat × AN × Nat × AN)=>.slice (Pa b) 1 1) (fun S (γ:Nat × AN × Nat × AN) hj hd hl=>by rw [mS4 hj rfl rfl rfl];exact List.Perm.refl _) (fun S (γ:Nat × AN × Nat × AN) g _=>(List.Perm.refl _).symm) (fun (γ:Nat × AN × Nat × AN) M' w hM=>run_new (v:=fun b=>.slice (Pa b) 1 1) (fun b M=>Kr) M' w hM) (fun (γ:Nat × AN × Nat × AN)=>Kr) (fun (γ:Nat × AN × Nat × AN) g=>Kr) Kr (fun (γ:Nat × AN × Nat × AN) g=>Kr) (Steps.opL (i:=3) (Γ:=AN) (fun g (γ:Nat × AN × Nat × AN)=>(γ.1,g,γ.2.2.1,γ.2.2.2)) (fun (γ:Nat × AN × Nat × AN)=>[Ow A_truth_3 c_truth_3 89 6 (truth_3.map Plot.c),Bk γ.1 (Plot.c r9.1) 89]) (fun g (γ:Nat × AN × Nat × AN)=>[Ow (g.1) (g.2) 89 6 ((truth_3 ++ ([r9.1])).map Plot.c),Bk γ.1 (Plot.c r9.1) 89]) (fun S (γ:Nat × AN × Nat × AN)=>(bif S 6 then [Bk γ.2.2.1 (Plot.c r10.1) 89] else []) ++ ((bif S 7 then [Ow (γ.2.2.2.1) (γ.2.2.2.2) 89 6 ((seen_3 ++ ([r10.1])).map Plot.c)] else [Ow A_seen_3 c_seen_3 89 6 (seen_3.map Plot.c)]) ++ (Mr19_))) [3,7,8,9] (fun (γ:Nat × AN × Nat × AN)=>sV (Builtin.append_ #[83,83] 83 #[.slice A_truth_3 truth_3.length c_truth_3,.slice (Pa γ.1) 1 1])) (some 85) (fun g (γ:Nat × AN × Nat × AN)=>.slice (g.1) ((truth_3 ++ ([r9.1])).length) (g.2)) (fun S (γ:Nat × AN × Nat × AN) hj hd hl=>by change List.Perm (((bif S 2 then [Bk γ.1 (Plot.c r9.1) 89] else []) ++ ((bif S 3 then [Ow (γ.2.1.1) (γ.2.1.2) 89 6 ((truth_3 ++ ([r9.1])).map Plot.c)] else [Ow A_truth_3 c_truth_3 89 6 (truth_3.map Plot.c)]) ++ ((bif S 6 then [Bk γ.2.2.1 (Plot.c r10.1) 89] else []) ++ ((bif S 7 then [Ow (γ.2.2.2.1) (γ.2.2.2.2) 89 6 ((seen_3 ++ ([r10.1])).map Plot.c)] else [Ow A_seen_3 c_seen_3 89 6 (seen_3.map Plot.c)]) ++ (Mr19_))))):Mem) _;rw [hj,hd 2 Kr];exact ((List.Perm.append_left _ (List.Perm.refl _)).trans (perm_mid _ _ _)).trans (List.Perm.append_left _ ((List.Perm.refl _).trans (List.Perm.append_left _ (List.Perm.refl _))))) (fun S (γ:Nat × AN × Nat × AN) g _ hd hl=>by change List.Perm ([Ow (g.1) (g.2) 89 6 ((truth_3 ++ ([r9.1])).map Plot.c)] ++ ([Bk γ.1 (Plot.c r9.1) 89] ++ ((bif S 6 then [Bk γ.2.2.1 (Plot.c r10.1) 89] else []) ++ ((bif S 7 then [Ow (γ.2.2.2.1) (γ.2.2.2.2) 89 6 ((seen_3 ++ ([r10.1])).map Plot.c)] else [Ow A_seen_3 c_seen_3 89 6 (seen_3.map Plot.c)]) ++ (Mr19_))))) (((bif S 2 then [Bk γ.1 (Plot.c r9.1) 89] else []) ++ ((bif true then [Ow (g.1) (g.2) 89 6 ((truth_3 ++ ([r9.1])).map Plot.c)] else [Ow A_truth_3 c_truth_3 89 6 (truth_3.map Plot.c)]) ++ ((bif S 6 then [Bk γ.2.2.1 (Plot.c r10.1) 89] else []) ++ ((bif S 7 then [Ow (γ.2.2.2.1) (γ.2.2.2.2) 89 6 ((seen_3 ++ ([r10.1])).map Plot.c)] else [Ow A_seen_3 c_seen_3 89 6 (seen_3.map Plot.c)]) ++ (Mr19_))))):Mem);rw [hd 2 Kr];exact (((List.Perm.append_left _ (List.Perm.refl _)).trans (perm_mid _ _ _)).trans (List.Perm.append_left _ ((List.Perm.refl _).trans (List.Perm.append_left _ (List.Perm.refl _))))).symm) (fun (γ:Nat × AN × Nat × AN) M' w hM=>app_at (bytes:=48) 83 0 ([r9.1]) Kr rfl rfl Plot.one rfl (fun w hM=>(Rd.lit hM 1 _ rfl Kr Kr Kr)) rfl sa w hM) (fun (γ:Nat × AN × Nat × AN)=>Kr) (fun (γ:Nat × AN × Nat × AN) g=>Kr) Kr (fun (γ:Nat × AN × Nat × AN) g=>Kr) (Steps.run (i:=4) 6 [0,0] Mr19_ Kr Kr (fun S (γ:Nat × AN × Nat × AN) w hM=>by rw [mS4 rfl rfl rfl rfl] at hM;exact hM.sub (sub_skip (sub_skip (sub_skip (sub_skip (List.Sublist.refl _)))))) Kr (fun (γ:Nat × AN × Nat × AN)=>{}) (Steps.op (i:=6) (Γ:=Nat) (fun g (γ:Nat × AN × Nat × AN)=>(γ.1,γ.2.1,g,γ.2.2.2)) (fun _=>[]) (fun b (γ:Nat × AN × Nat × AN)=>[Bk b (Plot.c r10.1) 89]) (fun S (γ:Nat × AN × Nat × AN)=>(bif S 2 then [Bk γ.1 (Plot.c r9.1) 89] else []) ++ ((bif S 3 then [Ow (γ.2.1.1) (γ.2.1.2) 89 6 ((truth_3 ++ ([r9.1])).map Plot.c)] else [Ow A_truth_3 c_truth_3 89 6 (truth_3.map Plot.c)]) ++ ((bif S 7 then [Ow (γ.2.2.2.1) (γ.2.2.2.2) 89 6 ((seen_3 ++ ([r10.1])).map Plot.c)] else [Ow A_seen_3 c_seen_3 89 6 (seen_3.map Plot.c)]) ++ (Mr19_)))) [6,7,8,9] (fun (γ:Nat × AN × Nat × AN)=>sV (Instr.buildSlice 83 1 #[(0,Plot.v r10.1)])) (some 88) (fun b (γ:Nat × AN × Nat × AN)=>.slice (Pa b) 1 1) (fun S (γ:Nat × AN × Nat × AN) hj hd hl=>by rw [mS4 rfl rfl hj rfl];exact (List.Perm.append_left _ ((List.Perm.append_left _ (List.Perm.refl _)).trans (perm_mid _ _ _))).trans (perm_mid _ _ _)) (fun S (γ:Nat × AN × Nat × AN) g _=>((List.Perm.append_left _ ((List.Perm.append_left _ (List.Perm.refl _)).trans (perm_mid _ _ _))).trans (perm_mid _ _ _)).symm) (fun (γ:Nat × AN × Nat × AN) M' w hM=>run_new (v:=fun b=>.slice (Pa b) 1 1) (fun b M=>Kr) M' w hM) (fun (γ:Nat × AN × Nat × AN)=>Kr) (fun (γ:Nat × AN × Nat × AN) g=>Kr) Kr (fun (γ:Nat × AN × Nat × AN) g=>Kr) (Steps.opL (i:=7) (Γ:=AN) (fun g (γ:Nat × AN × Nat × AN)=>(γ.1,γ.2.1,γ.2.2.1,g)) (fun (γ:Nat × AN × Nat × AN)=>[Ow A_seen_3 c_seen_3 89 6 (seen_3.map Plot.c),Bk γ.2.2.1 (Plot.c r10.1) 89]) (fun g (γ:Nat × AN × Nat × AN)=>[Ow (g.1) (g.2) 89 6 ((seen_3 ++ ([r10.1])).map Plot.c),Bk γ.2.2.1 (Plot.c r10.1) 89]) (fun S (γ:Nat × AN × Nat × AN)=>(bif S 2 then [Bk γ.1 (Plot.c r9.1) 89] else []) ++ ((bif S 3 then [Ow (γ.2.1.1) (γ.2.1.2) 89 6 ((truth_3 ++ ([r9.1])).map Plot.c)] else [Ow A_truth_3 c_truth_3 89 6 (truth_3.map Plot.c)]) ++ (Mr19_))) [7,8,9] (fun (γ:Nat × AN × Nat × AN)=>sV (Builtin.append_ #[83,83] 83 #[.slice A_seen_3 seen_3.length c_seen_3,.slice (Pa γ.2.2.1) 1 1])) (some 89) (fun g (γ:Nat × AN × Nat × AN)=>.slice (g.1) ((seen_3 ++ ([r10.1])).length) (g.2)) (fun S (γ:Nat × AN × Nat × AN) hj hd hl=>by change List.Perm (((bif S 2 then [Bk γ.1 (Plot.c r9.1) 89] else []) ++ ((bif S 3 then [Ow (γ.2.1.1) (γ.2.1.2) 89 6 ((truth_3 ++ ([r9.1])).map Plot.c)] else [Ow A_truth_3 c_truth_3 89 6 (truth_3.map Plot.c)]) ++ ((bif S 6 then [Bk γ.2.2.1 (Plot.c r10.1) 89] else []) ++ ((bif S 7 then [Ow (γ.2.2.2.1) (γ.2.2.2.2) 89 6 ((seen_3 ++ ([r10.1])).map Plot.c)] else [Ow A_seen_3 c_seen_3 89 6 (seen_3.map Plot.c)]) ++ (Mr19_))))):Mem) _;rw [hj,hd 6 Kr];exact ((List.Perm.append_left _ ((List.Perm.append_left _ ((List.Perm.append_left _ (List.Perm.refl _)).trans (perm_mid _ _ _))).trans (perm_mid _ _ _))).trans (perm_mid _ _ _)).trans (List.Perm.append_left _ (((List.Perm.append_left _ ((List.Perm.append_left _ (List.Perm.refl _)).trans (perm_mid _ _ _))).trans (perm_mid _ _ _)).trans (List.Perm.append_left _ (List.Perm.refl _))))) (fun S (γ:Nat × AN × Nat × AN) g _ hd hl=>by change List.Perm ([Ow (g.1) (g.2) 89 6 ((seen_3 ++ ([r10.1])).map Plot.c)] ++ ([Bk γ.2.2.1 (Plot.c r10.1) 89] ++ ((bif S 2 then [Bk γ.1 (Plot.c r9.1) 89] else []) ++ ((bif S 3 then [Ow (γ.2.1.1) (γ.2.1.2) 89 6 ((truth_3 ++ ([r9.1])).map Plot.c)] else [Ow A_truth_3 c_truth_3 89 6 (truth_3.map Plot.c)]) ++ (Mr19_))))) (((bif S 2 then [Bk γ.1 (Plot.c r9.1) 89] else []) ++ ((bif S 3 then [Ow (γ.2.1.1) (γ.2.1.2) 89 6 ((truth_3 ++ ([r9.1])).map Plot.c)] else [Ow A_truth_3 c_truth_3 89 6 (truth_3.map Plot.c)]) ++ ((bif S 6 then [Bk γ.2.2.1 (Plot.c r10.1) 89] else []) ++ ((bif true then [Ow (g.1) (g.2) 89 6 ((seen_3 ++ ([r10.1])).map Plot.c)] else [Ow A_seen_3 c_seen_3 89 6 (seen_3.map Plot.c)]) ++ (Mr19_))))):Mem);rw [hd 6 Kr];exact (((List.Perm.append_left _ ((List.Perm.append_left _ ((List.Perm.append_left _ (List.Perm.refl _)).trans (perm_mid _ _ _))).trans (perm_mid _ _ _))).trans (perm_mid _ _ _)).trans (List.Perm.append_left _ (((List.Perm.append_left _ ((List.Perm.append_left _ (List.Perm.refl _)).trans (perm_mid _ _ _))).trans (perm_mid _ _ _)).trans (List.Perm.append_left _ (List.Perm.refl _))))).symm) (fun (γ:Nat × AN × Nat × AN) M' w hM=>app_at (bytes:=48) 83 0 ([r10.1]) Kr rfl rfl Plot.one rfl (fun w hM=>(Rd.lit hM 1 _ rfl Kr Kr Kr)) rfl sa w hM) (fun (γ:Nat × AN × Nat × AN)=>Kr) (fun (γ:Nat × AN × Nat × AN) g=>Kr) Kr (fun (γ:Nat × AN × Nat × AN) g=>Kr) (Steps.run (i:=8) 10 [0,0] Mr19_ Kr Kr (fun S (γ:Nat × AN × Nat × AN) w hM=>by rw [mS4 rfl rfl rfl rfl] at hM;exact hM.sub (sub_skip (sub_skip (sub_skip (sub_skip (List.Sublist.refl _)))))) Kr (fun (γ:Nat × AN × Nat × AN)=>{}) (Steps.done Kr)))))))
                  · rintro ⟨b6,⟨A_3,c_3⟩,b7,⟨A_4,c_4⟩⟩
                    exact TE.conv [Bk b6 (Plot.c r9.1) 89,Ow A_3 c_3 89 6 ((truth_3 ++ ([r9.1])).map Plot.c),Bk b7 (Plot.c r10.1) 89,Ow A_4 c_4 89 6 ((seen_3 ++ ([r10.1])).map Plot.c),Bk b5 (Plot.c r10.1) 89,Bk b4 (Plot.c r9.1) 89,Bk b3 (bFlight.c x) 38,Bk b2 (RadarSite.c (r7[0]?.getD RadarSite.zero)) 85,Ow A c 38 6 (r1.map bFlight.c),Bk b1 (BiasOffset.c (⟨r4,r5,r6⟩:BiasOffset)) 104] (fun _ hM=>hM) (TE.nb (TE.next (TC.region (TL.r 2 [] [(52,.i (w64 ((k_2:Int) + 1)))] {} (TL.done rfl (TE.conv [Ow A_4 c_4 89 6 ((seen_3 ++ ([r10.1])).map Plot.c),Ow A_3 c_3 89 6 ((truth_3 ++ ([r9.1])).map Plot.c),Bk b2 (RadarSite.c (r7[0]?.getD RadarSite.zero)) 85,Ow A c 38 6 (r1.map bFlight.c),Bk b1 (BiasOffset.c (⟨r4,r5,r6⟩:BiasOffset)) 104,Bk b6 (Plot.c r9.1) 89,Bk b7 (Plot.c r10.1) 89,Bk b5 (Plot.c r10.1) 89,Bk b4 (Plot.c r9.1) 89,Bk b3 (bFlight.c x) 38] (fun _ hM=>hM.perm (px [3,1,7,8,9,0,2,4,5,6])) (TE.rw 52 (.i (w64 ((k_2:Int) + 1))) (.i ((k_2 + 1:Nat):Int)) Kr (w64_cast k_2 (by omega)) (TE.again (x:=(k_2,truth_3,seen_3,A_truth_3,c_truth_3,A_seen_3,c_seen_3)) (k_2 + 1,(truth_3 ++ ([r9.1])),(seen_3 ++ ([r10.1])),A_3,c_3,A_4,c_4) ⟨by omega,hI_2.trans (by subst hr1 hr2 hr4 hr5 hr6 hr7 hr8 hr9 hr10;rw [hd_2];exact cond_f h4 (cond_f h5 (rfl))),sl,sl⟩ (mN hlt_2) Kr (sb 31)))))))))
          · have hd_2:=dropN h3
            refine TC.exit (TE.et (TE.et (TE.exit_same ?_)))
            exact TE.cut (truth_3,seen_3,A_truth_3,c_truth_3,A_seen_3,c_seen_3) (⟨hI_2.trans (by subst hr1 hr2 hr4 hr5 hr6 hr7;rw [hd_2];exact rfl),sl,sl⟩) Kr (sb 31)
        · rintro ⟨truth_4,seen_4,A_truth_4,c_truth_4,A_seen_4,c_seen_4⟩ ⟨hJ_2,hl_truth_4,hl_seen_4⟩
          exact TE.nb (TE.next (TC.region (TL.r 2 [] [(47,.i (w64 ((k:Int) + 1)))] {} (TL.done rfl (TE.rw 47 (.i (w64 ((k:Int) + 1))) (.i ((k + 1:Nat):Int)) Kr (w64_cast k (by omega)) (TE.again (x:=(k,truth,seen,A_truth,c_truth,A_seen,c_seen)) (k + 1,truth_4,seen_4,A_truth_4,c_truth_4,A_seen_4,c_seen_4) ⟨by omega,hI.trans (by subst hr1 hr2 hr4 hr5 hr6 hr7;rw [hd];exact elim_l (hR_2.symm.trans hJ_2) (rfl)),sl,sl⟩ (mN hlt) Kr (sb 31)))))))
      · have hd:(5:Int).toNat - k=0:=by have:=of_decide_eq_false h2;first | omega | (simp at this;omega)
        refine TC.exit (TE.et (TE.et (TE.exit_same ?_)))
        exact TE.cut (truth,seen,A_truth,c_truth,A_seen,c_seen) (⟨hI.trans (by subst hr1 hr2 hr4 hr5 hr6 hr7;rw [hd];exact rfl),sl,sl⟩) Kr (sb 31)
    · rintro ⟨truth_2,seen_2,A_truth_2,c_truth_2,A_seen_2,c_seen_2⟩ ⟨hJ,hl_truth_2,hl_seen_2⟩
      refine TE.nr (TL.r 2 [] [(93,.slice A_truth_2 truth_2.length c_truth_2),(94,.slice A_seen_2 seen_2.length c_seen_2)] {} (TL.c 95 (bias_Estimate truth_2 seen_2) (fun r11=>.tuple #[BiasOffset.v r11.1,.i r11.2]) (fun w hM=>bias_Estimate_w A_truth_2 c_truth_2 truth_2 A_seen_2 c_seen_2 seen_2 w (hM.rd_at 1 rfl) (hM.le_at 1 rfl) (hM.rd_at 0 rfl) (hM.le_at 0 rfl)) {} (fun r11 hr11=>TL.r 6 [] [(96,BiasOffset.v r11.1),(97,.i r11.2)] {} (TL.nw 15 (fun b8=>.p0 b8) (fun b8=>Bk b8 (BiasOffset.c BiasOffset.zero) 104) (fun b8=>{}) (fun b8=>TL.s 0 (Bk b8 (BiasOffset.c r11.1) 104) (fun _=>{}) (TL.r 9 [] [(16,.i r11.2)] {} (TL.ns (TC.sr (TL.r 3 [] [(100,.b (r11.2 != 0))] {} (TL.split 100 (r11.2 != 0) Kr (fun h6=>?_) (fun h6=>?_)))))))))))
      · exact TL.r 7 [] [(104,.b true)] {} (TL.next rfl (TC.condT rfl Kr (TC.sr (TL.r 1 [] [(4,.b false)] {} (TL.next rfl (TC.ret (TE.rt (TE.ret [] (.b false) {} (by unfold skywaytop_TopBias;refine eS (fun z=>(.b z:Value)) ?_;subst hr1 hr2 hr4 hr5 hr6 hr7 hr11;exact cond_f h1 (elim_l (hR.symm.trans hJ) (cond_t h6 (rfl))))))))))))
      · have q6_0:=(bne_f h6)
        refine TL.r 5 [0,5] [(101,BiasOffset.v r11.1),(102,BiasOffset.v (⟨r4,r5,r6⟩:BiasOffset))] {} (TL.v (sV (do eqGuard .neq 104 (.tmp 101) (.tmp 102) (BiasOffset.v r11.1) (BiasOffset.v (⟨r4,r5,r6⟩:BiasOffset));binOp .neq 104 (BiasOffset.v r11.1) (BiasOffset.v (⟨r4,r5,r6⟩:BiasOffset)))) 103 (.b (!(BiasOffset.eqb r11.1 (⟨r4,r5,r6⟩:BiasOffset)))) (fun w hM=>run_neq (b:=BiasOffset.eqb r11.1 (⟨r4,r5,r6⟩:BiasOffset)) Kr Kr w) {} (TL.r 7 [] [(104,.b (!(BiasOffset.eqb r11.1 (⟨r4,r5,r6⟩:BiasOffset))))] {} (TL.next rfl (TC.cond (!(BiasOffset.eqb r11.1 (⟨r4,r5,r6⟩:BiasOffset))) rfl Kr (fun h7=>?_) (fun h7=>?_)))))
        · exact TC.sr (TL.r 1 [] [(4,.b false)] {} (TL.next rfl (TC.ret (TE.rt (TE.ret [] (.b false) {} (by unfold skywaytop_TopBias;refine eS (fun z=>(.b z:Value)) ?_;subst hr1 hr2 hr4 hr5 hr6 hr7 hr11;exact cond_f h1 (elim_l (hR.symm.trans hJ) (cond_f h6 (cond_t h7 (rfl))))))))))
        · refine TC.sn (TC.seq (TC.sr (TL.r 3 [] [(105,.slice A_seen_2 seen_2.length c_seen_2),(106,.i (seen_2.length:Int)),(107,.i 0)] {} (TL.next rfl ?_))))
          obtain ⟨R7,hR_3⟩:∃ R,R=skywaytop_TopBias_L3 r1 r7 r11 seen_2 0:=⟨_,rfl⟩
          refine TC.cut (S:=Unit) (fun (_:Unit)=>[]) (fun (_:Unit)=>[]) (fun (_:Unit)=>R7=.inl ()) ?_ ?_
          · refine TC.block (TC.lw (X:=Nat) (fun k_3=>[(5,.slice A r1.length c),(6,.p0 b2),(15,.p0 b8),(105,.slice A_seen_2 seen_2.length c_seen_2),(106,.i (seen_2.length:Int)),(107,.i (k_3:Int))]) (fun k_3=>[Bk b8 (BiasOffset.c r11.1) 104,Ow A_seen_2 c_seen_2 89 6 (seen_2.map Plot.c),Bk b2 (RadarSite.c (r7[0]?.getD RadarSite.zero)) 85,Ow A c 38 6 (r1.map bFlight.c)]) (fun k_3=>seen_2.length - k_3) (fun k_3=>k_3 ≤ seen_2.length ∧ R7=skywaytop_TopBias_L3 r1 r7 r11 (seen_2.drop k_3) k_3) ?_ 0 ⟨Nat.zero_le _,hR_3⟩ Kr (sb 27))
            rintro k_3 ⟨hk_3,hI_3⟩
            refine TC.sr (TL.r 1 [] [(108,.b (decide ((k_3:Int) < (seen_2.length:Int))))] {} (TL.ns (TC.cond (decide ((k_3:Int) < (seen_2.length:Int))) rfl Kr (fun h8=>?_) (fun h8=>?_))))
            · have hlt_3:=ltN h8
              obtain ⟨x_2,hx_3⟩:=elN hlt_3
              have km_:0 ≤ (k_3:Int).tmod (r1.length:Int) ∧ (k_3:Int).tmod (r1.length:Int) < (r1.length:Int):=by rw [Int.tmod_eq_emod_of_nonneg (by omega)];exact ⟨Int.emod_nonneg _ (by omega),Int.emod_lt_of_pos _ (by omega)⟩
              have hd_3:=drop_at hx_3
              refine TC.sn (TC.seq (TC.block (TC.sr (TL.r 1 [] [(109,.i (k_3:Int))] {} (TL.v (sV (Instr.indexAt 83 (.slice A_seen_2 seen_2.length c_seen_2) (.i (k_3:Int)))) 110 (.pointer (some (Ix A_seen_2 (k_3 * 6)))) (fun w hM=>run_index (hM.rd_at 1 rfl) (by simp) Kr sdr sdr) {} (TL.v (sV (Instr.loadAt 89 (.pointer (some (Ix A_seen_2 (k_3 * 6)))))) 111 (Plot.v x_2) (fun w hM=>run_load_agg (n:=6) (off:=0) (i:=k_3) (Plot.v x_2) (hM.rd_at 1 rfl) (map_at hx_3) Kr Kr Kr) {} (TL.nw 18 (fun b9=>.p0 b9) (fun b9=>Bk b9 (Plot.c Plot.zero) 89) (fun b9=>{}) (fun b9=>TL.r 5 [] [(17,.i (k_3:Int))] {} (TL.s 0 (Bk b9 (Plot.c x_2) 89) (fun _=>{}) (TL.nr (TL.r 2 [0,1] [(113,Plot.v x_2),(114,BiasOffset.v r11.1)] {} (TL.c 115 (bias_Correct x_2 r11.1) (fun r12=>.tuple #[Plot.v r12.1,.i r12.2]) (fun w _=>bias_Correct_w x_2 r11.1 w) {} (fun r12 hr12=>TL.r 6 [] [(116,Plot.v r12.1),(117,.i r12.2)] {} (TL.nw 19 (fun b10=>.p0 b10) (fun b10=>Bk b10 (Plot.c Plot.zero) 89) (fun b10=>{}) (fun b10=>TL.s 0 (Bk b10 (Plot.c r12.1) 89) (fun _=>{}) (TL.r 9 [] [(20,.i r12.2)] {} (TL.nr (TL.r 2 [4,0] [(119,RadarSite.v (r7[0]?.getD RadarSite.zero)),(120,Plot.v r12.1)] {} (TL.c 121 (radar_Spot (r7[0]?.getD RadarSite.zero) r12.1) (fun r13=>.tuple #[Spot.v r13.1,.i r13.2]) (fun w hM=>radar_Spot_w (r7[0]?.getD RadarSite.zero) r12.1 w (hT.sat hM)) {} (fun r13 hr13=>TL.r 6 [] [(122,Spot.v r13.1),(123,.i r13.2)] {} (TL.nw 21 (fun b11=>.p0 b11) (fun b11=>Bk b11 (Spot.c Spot.zero) 42) (fun b11=>{}) (fun b11=>TL.s 0 (Bk b11 (Spot.c r13.1) 42) (fun _=>{}) (TL.r 9 [] [(22,.i r13.2)] {} (TL.ns ?_))))))))))))))))))))))))
              obtain ⟨r14,hr14⟩:∃ r,skywaytop_bFlight_place (r1[((k_3:Int).tmod (r1.length:Int)).toNat]?.getD bFlight.zero) (w64 (4 * (w64 ((k_3:Int).tdiv (r1.length:Int)))))=r:=⟨_,rfl⟩
              let Mr30_:Mem:=[Bk b11 (Spot.c r13.1) 42,Bk b10 (Plot.c r12.1) 89,Bk b9 (Plot.c x_2) 89,Bk b8 (BiasOffset.c r11.1) 104,Ow A_seen_2 c_seen_2 89 6 (seen_2.map Plot.c),Bk b2 (RadarSite.c (r7[0]?.getD RadarSite.zero)) 85,Ow A c 38 6 (r1.map bFlight.c)]
              refine TC.plan (G:=Nat) (base:=[(5,.slice A r1.length c),(6,.p0 b2),(15,.p0 b8),(17,.i (k_3:Int)),(20,.i r12.2),(21,.p0 b11),(22,.i r13.2),(105,.slice A_seen_2 seen_2.length c_seen_2),(106,.i (seen_2.length:Int)),(107,.i (k_3:Int))]) (vals:=fun γ=>[.slice A r1.length c,.i (k_3:Int),.slice A r1.length c,.i (r1.length:Int),.i ((k_3:Int).tmod (r1.length:Int)),.pointer (some ((A.getD noAddr).add (((k_3:Int).tmod (r1.length:Int)).toNat * 6))),bFlight.v (r1[((k_3:Int).tmod (r1.length:Int)).toNat]?.getD bFlight.zero),.i (k_3:Int),.slice A r1.length c,.i (r1.length:Int),.i (w64 ((k_3:Int).tdiv (r1.length:Int))),.i (w64 (4 * (w64 ((k_3:Int).tdiv (r1.length:Int))))),P.v r14,.p0 γ,undef]) (writes:=[13,14]) (mem:=fun bs γ=>match bs with | [x13_,x14_]=>(bif x14_ then [Bk γ (P.c r14) 36] else bif x13_ then [Bk γ (P.c P.zero) 36] else []) ++ (Mr30_) | _=>[]) (0) (fun γ=>[(5,.slice A r1.length c),(6,.p0 b2),(15,.p0 b8),(20,.i r12.2),(21,.p0 b11),(22,.i r13.2),(23,.p0 γ),(105,.slice A_seen_2 seen_2.length c_seen_2),(106,.i (seen_2.length:Int)),(107,.i (k_3:Int))]) Kr Kr Kr Kr Kr (fun γ=>Kr) (fun _ hM=>hM) (fun γ=>Kr) ?_ ?_
              · skip
                exact Steps.run (i:=0) 4 [0,0,0,0] Mr30_ Kr Kr (fun S (γ:Nat) w hM=>by rw [mS2 rfl rfl] at hM;exact hM.sub (sub_skip (List.Sublist.refl _))) Kr (fun (γ:Nat)=>{}) (Steps.val (i:=4) (fun (γ:Nat)=>sV (binOp .rem 3 (.i (k_3:Int)) (.i (r1.length:Int)))) (some 128) (fun (γ:Nat)=>.i ((k_3:Int).tmod (r1.length:Int))) (fun _=>Mr30_) Kr (fun S (γ:Nat) w _ hM=>by rw [mS2 rfl rfl] at hM;exact hM.sub (sub_skip (List.Sublist.refl _))) (fun (γ:Nat) w hM=>run_rem sdr) (fun (γ:Nat)=>Kr) (fun (γ:Nat)=>Kr) (Steps.val (i:=5) (fun (γ:Nat)=>sV (Instr.indexAt 23 (.slice A r1.length c) (.i ((k_3:Int).tmod (r1.length:Int))))) (some 129) (fun (γ:Nat)=>.pointer (some ((A.getD noAddr).add (((k_3:Int).tmod (r1.length:Int)).toNat * 6)))) (fun _=>Mr30_) Kr (fun S (γ:Nat) w _ hM=>by rw [mS2 rfl rfl] at hM;exact hM.sub (sub_skip (List.Sublist.refl _))) (fun (γ:Nat) w hM=>run_index (hM.rd_at 6 rfl) (by simp) Kr sdr sdr) (fun (γ:Nat)=>Kr) (fun (γ:Nat)=>Kr) (Steps.val (i:=6) (fun (γ:Nat)=>sV (Instr.loadAt 38 (.pointer (some ((A.getD noAddr).add (((k_3:Int).tmod (r1.length:Int)).toNat * 6)))))) (some 130) (fun (γ:Nat)=>bFlight.v (r1[((k_3:Int).tmod (r1.length:Int)).toNat]?.getD bFlight.zero)) (fun _=>Mr30_) Kr (fun S (γ:Nat) w _ hM=>by rw [mS2 rfl rfl] at hM;exact hM.sub (sub_skip (List.Sublist.refl _))) (fun (γ:Nat) w hM=>run_load_agg (n:=6) (off:=0) (i:=((k_3:Int).tmod (r1.length:Int)).toNat) (bFlight.v (r1[((k_3:Int).tmod (r1.length:Int)).toNat]?.getD bFlight.zero)) (hM.rd_at 6 rfl) (map_at (getD_at _ _ bFlight.zero sdr)) Kr Kr Kr) (fun (γ:Nat)=>Kr) (fun (γ:Nat)=>Kr) (Steps.run (i:=7) 10 [0,0,0] Mr30_ Kr Kr (fun S (γ:Nat) w hM=>by rw [mS2 rfl rfl] at hM;exact hM.sub (sub_skip (List.Sublist.refl _))) Kr (fun (γ:Nat)=>{}) (Steps.val (i:=10) (fun (γ:Nat)=>sV (binOp .quo 3 (.i (k_3:Int)) (.i (r1.length:Int)))) (some 134) (fun (γ:Nat)=>.i (w64 ((k_3:Int).tdiv (r1.length:Int)))) (fun _=>Mr30_) Kr (fun S (γ:Nat) w _ hM=>by rw [mS2 rfl rfl] at hM;exact hM.sub (sub_skip (List.Sublist.refl _))) (fun (γ:Nat) w hM=>run_quo sdr) (fun (γ:Nat)=>Kr) (fun (γ:Nat)=>Kr) (Steps.run (i:=11) 12 [0] Mr30_ Kr Kr (fun S (γ:Nat) w hM=>by rw [mS2 rfl rfl] at hM;exact hM.sub (sub_skip (List.Sublist.refl _))) Kr (fun (γ:Nat)=>{}) (Steps.call (i:=12) 16 (fun (γ:Nat)=>#[bFlight.v (r1[((k_3:Int).tmod (r1.length:Int)).toNat]?.getD bFlight.zero),.i (w64 (4 * (w64 ((k_3:Int).tdiv (r1.length:Int)))))]) (some 136) (fun (γ:Nat)=>P.v r14) (fun (γ:Nat)=>[Bk b11 (Spot.c r13.1) 42,Bk b10 (Plot.c r12.1) 89,Bk b9 (Plot.c x_2) 89,Bk b8 (BiasOffset.c r11.1) 104,Ow A_seen_2 c_seen_2 89 6 (seen_2.map Plot.c),Bk b2 (RadarSite.c (r7[0]?.getD RadarSite.zero)) 85,Ow A c 38 6 (r1.map bFlight.c)]) Kr (fun S (γ:Nat) w _ hM=>by rw [mS2 rfl rfl] at hM;exact hM.sub (sub_skip (List.Sublist.refl _))) (fun (γ:Nat) w _=>by have h:=skywaytop_bFlight_place_w (r1[((k_3:Int).tmod (r1.length:Int)).toNat]?.getD bFlight.zero) (w64 (4 * (w64 ((k_3:Int).tdiv (r1.length:Int))))) w;rw [hr14] at h;exact h) (fun (γ:Nat)=>Kr) (fun (γ:Nat)=>Kr) (Steps.op (i:=13) (Γ:=Nat) (fun g (γ:Nat)=>g) (fun _=>[]) (fun b (γ:Nat)=>[Bk b (P.c P.zero) 36]) (fun S (γ:Nat)=>Mr30_) [13,14] (fun (γ:Nat)=>sV (Instr.alloc 36 true (.tuple #[]))) (some 23) (fun b (γ:Nat)=>.p0 b) (fun S (γ:Nat) hj hd hl=>by rw [mS2 hj (hl 14 Kr)];exact List.Perm.refl _) (fun S (γ:Nat) g hl=>by rw [mS2 (S:=upS S 13) (a0:=13) (a1:=14) rfl (hl 14 Kr)];exact (List.Perm.refl _).symm) (fun (γ:Nat) M' w hM=>run_new (v:=fun b=>.p0 b) (fun b M=>Kr) M' w hM) (fun (γ:Nat)=>Kr) (fun (γ:Nat) g=>Kr) Kr (fun (γ:Nat) g=>Kr) (Steps.put (i:=14) (fun (γ:Nat)=>[Bk γ (P.c P.zero) 36]) (fun (γ:Nat)=>[Bk γ (P.c r14) 36]) (fun S (γ:Nat)=>Mr30_) (fun (γ:Nat)=>sU (Instr.storeAt 36 (.p0 γ) (P.v r14))) none (fun S (γ:Nat) hj hd hl=>by rw [mS2 (hd 13 Kr) hj];exact List.Perm.refl _) (fun S (γ:Nat) _=>(List.Perm.refl _).symm) (fun (γ:Nat) M' w hM=>run_put (fun b M=>Kr) (fun b M=>Kr) M' w hM) (fun (γ:Nat)=>Kr) (fun (γ:Nat)=>Kr) (Steps.done Kr))))))))))
              · rintro b12
                refine TE.conv [Bk b12 (P.c r14) 36,Bk b11 (Spot.c r13.1) 42,Bk b10 (Plot.c r12.1) 89,Bk b9 (Plot.c x_2) 89,Bk b8 (BiasOffset.c r11.1) 104,Ow A_seen_2 c_seen_2 89 6 (seen_2.map Plot.c),Bk b2 (RadarSite.c (r7[0]?.getD RadarSite.zero)) 85,Ow A c 38 6 (r1.map bFlight.c)] (fun _ hM=>hM) (TE.next (TC.seq (TC.draw 18 Kr Kr Kr (TQ.r 3 [] [(139,.b (r12.2 != 0))] {} (TQ.j 139 (r12.2 != 0) 6 [] [] (fun β=>[(142,.b (β || (r13.2 != 0)))]) Kr {} {} (TQ.r 7 [] [(143,.b ((r12.2 != 0) || (r13.2 != 0)))] {} (TQ.split 143 ((r12.2 != 0) || (r13.2 != 0)) Kr (fun h9=>?_) (fun h9=>?_))))))))
                · refine TQ.r 18 [] [(154,.b true)] {} (TQ.next rfl (TC.condT rfl Kr (TC.sr (TL.r 1 [] [(4,.b false)] {} (TL.next rfl (TC.ret (TE.rb (TE.rt (TE.rt (TE.rb (TE.rt (TE.rt ?_))))))))))))
                  exact TE.ret [] (.b false) {} (by unfold skywaytop_TopBias;refine eS (fun z=>(.b z:Value)) ?_;subst hr1 hr2 hr4 hr5 hr6 hr7 hr11 hr12 hr13 hr14;exact cond_f h1 (elim_l (hR.symm.trans hJ) (cond_f h6 (cond_f h7 (elim_r (hR_3.symm.trans (hI_3.trans (by rw [hd_3];exact cond_t h9 (rfl)))) rfl)))))
                · have q9_0:=(bne_f (or_f1 h9))
                  have q9_1:=(bne_f (or_f2 h9))
                  refine TQ.r 10 [1,0] [(145,P.v r13.1.At),(146,P.v r14)] {} (TQ.c 147 (skywaytop_bSquare r13.1.At r14) (fun r15=>.i r15) (fun w _=>skywaytop_bSquare_w r13.1.At r14 w) rfl {} (fun r15 hr15=>TQ.r 18 [1,1] [(154,.b (decide (r15 > (w64 (r13.1.Error * r13.1.Error)))))] {} (TQ.next rfl (TC.cond (decide (r15 > (w64 (r13.1.Error * r13.1.Error)))) rfl Kr (fun h10=>?_) (fun h10=>?_)))))
                  · refine TC.sr (TL.r 1 [] [(4,.b false)] {} (TL.next rfl (TC.ret (TE.rb (TE.rt (TE.rt (TE.rb (TE.rt (TE.rt ?_)))))))))
                    exact TE.ret [] (.b false) {} (by unfold skywaytop_TopBias;refine eS (fun z=>(.b z:Value)) ?_;subst hr1 hr2 hr4 hr5 hr6 hr7 hr11 hr12 hr13 hr14 hr15;exact cond_f h1 (elim_l (hR.symm.trans hJ) (cond_f h6 (cond_f h7 (elim_r (hR_3.symm.trans (hI_3.trans (by rw [hd_3];exact cond_f h9 (cond_t h10 (rfl))))) rfl)))))
                  · have q10_0:=(dec_f h10)
                    exact TC.skip (TE.nb (TE.next (TC.region (TL.r 2 [] [(107,.i (w64 ((k_3:Int) + 1)))] {} (TL.done rfl (TE.rw 107 (.i (w64 ((k_3:Int) + 1))) (.i ((k_3 + 1:Nat):Int)) Kr (w64_cast k_3 (by omega)) (TE.again (x:=k_3) (k_3 + 1) ⟨by omega,hI_3.trans (by subst hr1 hr2 hr4 hr5 hr6 hr7 hr11 hr12 hr13 hr14 hr15;rw [hd_3];exact cond_f h9 (cond_f h10 (rfl)))⟩ (mN hlt_3) Kr (sb 240))))))))
            · have hd_3:=dropN h8
              refine TC.exit (TE.et (TE.et (TE.exit_same ?_)))
              exact TE.cut () (hI_3.trans (by subst hr1 hr2 hr4 hr5 hr6 hr7 hr11;rw [hd_3];exact rfl)) Kr (sb 0)
          · intro _ hJ_3
            exact TE.nr (TL.r 1 [] [(4,.b true)] {} (TL.next rfl (TC.ret (TE.ret [] (.b true) {} (by unfold skywaytop_TopBias;refine eS (fun z=>(.b z:Value)) ?_;subst hr1 hr2 hr4 hr5 hr6 hr7 hr11;exact cond_f h1 (elim_l (hR.symm.trans hJ) (cond_f h6 (cond_f h7 (elim_l (hR_3.symm.trans hJ_3) (rfl))))))))))
end Go.Sky
end
section
namespace Go.Sky
open Go Go.Eng Go.Glue Go.Srt
def scanOf (t:Tracker) (r2:List Spot × Int) (time:Int):(List Track) × Int × Tracker :=
  bindv (cond (decide (t.last ≥ 0)) (imin 60000 (w64 (500 + (w64 (200 * (w64 (time - t.last))))))) 60000) (fun band =>
    bindv (tracker_Tracker_Scan_L1 t time t.all 0 ([]:List Track) ([]:List followed)) (fun (tracks_2,all_2) =>
      let r4:=gate_Costs tracks_2 r2.1 band
      let r5:=assign_Best r4.1 2147483648
      bindv (tracker_Tracker_Scan_L2 t r2 r5 all_2 0 (List.replicate ((r2.1.length:Int).toNat) false) ([]:List followed)) (fun (used_2,xs__2) =>
        bindv (tracker_Tracker_Scan_L3 used_2 r2.1 0 t.next xs__2) (fun (next_2,xs__4) =>
          let r10:=tracker_Tracker_confirm (⟨t.rules,xs__4,next_2,time⟩:Tracker)
          let r11:=tracker_Tracker_fuse r10 time
          bindv (tracker_Tracker_Scan_L4 r11.all 0 ([]:List Track)) (fun out_2=>(out_2,0,r11))))))
theorem scan_of {t:Tracker} {l:List Spot} {time:Int} (h:tracker_Tracker_check t l time=0):tracker_Tracker_Scan t l time=scanOf t (fuse_Spots l 500) time:=by
  unfold tracker_Tracker_Scan
  dsimp only
  rw [h,show ((0:Int) != 0)=false from rfl,cond_false]
  rfl
theorem one_spots {s:Spot} {time:Int} (h:s.In ∧ s.Time=time):fuse_Spots [s] 500=([s],0):=by
  rw [spots_eq (time:=time) (by simp) (fun x hx=>by rw [List.mem_singleton.1 hx];exact h),show sortS [s]=[s] from List.mergeSort_singleton ..]
  rfl
set_option maxRecDepth 100000 in
theorem lives_true:skywaytop_bLives=true:=by
  unfold skywaytop_bLives
  dsimp only
  have h0:tracker_Tracker_Scan (tracker_New skywaytop_bRules).1 [(⟨0,⟨0,0⟩,0,5,10⟩:Spot)] 0=scanOf (tracker_New skywaytop_bRules).1 ([⟨0,⟨0,0⟩,0,5,10⟩],0) 0:=by
    rw [scan_of (by kernel_rfl),one_spots ⟨checkSpot_iff.1 (by kernel_rfl),rfl⟩]
  rw [h0]
  have h1:tracker_Tracker_Scan (scanOf (tracker_New skywaytop_bRules).1 ([⟨0,⟨0,0⟩,0,5,10⟩],0) 0).2.2 [(⟨4,⟨0,0⟩,0,5,10⟩:Spot)] 4=scanOf (scanOf (tracker_New skywaytop_bRules).1 ([⟨0,⟨0,0⟩,0,5,10⟩],0) 0).2.2 ([⟨4,⟨0,0⟩,0,5,10⟩],0) 4:=by
    rw [scan_of (by kernel_rfl),one_spots ⟨checkSpot_iff.1 (by kernel_rfl),rfl⟩]
  rw [h1]
  exact Kr
end Go.Sky
end
section
namespace Go.Sky
open Go Go.Eng
def lenB (k:Nat):Bool:=decide (268412285 ≤ sn k * sn k + cs k * cs k) && decide (sn k * sn k + cs k * cs k ≤ 268458627) &&
  decide ((sn k - sn (k + 1)) * (sn k - sn (k + 1)) + (cs k - cs (k + 1)) * (cs k - cs (k + 1)) ≤ 729)
def chordB (k j:Nat):Bool:=decide (423801 * ((sn k - sn (k + j)) * (sn k - sn (k + j)) + (cs k - cs (k + j)) * (cs k - cs (k + j))) ≤ (16384 * ((j:Int) + 1) - 10416) * (16384 * ((j:Int) + 1) - 10416))
def allB (f:Nat → Bool) (a:Nat):Nat → Bool
  | 0=>true
  | n + 1=>f a && allB f (a + 1) n
theorem allB_succ (f:Nat → Bool) (a n:Nat):allB f a (n + 1)=(f a && allB f (a + 1) n):=rfl
theorem allB_at (f:Nat → Bool) (n:Nat):∀ a,allB f a n=true → ∀ k,a ≤ k → k < a + n → f k=true:=by
  induction n with
  | zero=>intro a _ k h1 h2;omega
  | succ n ih =>
    intro a h k h1 h2
    rw [allB_succ,Bool.and_eq_true] at h
    by_cases he:a=k
    · rw [← he];exact h.1
    · exact ih (a + 1) h.2 k (by omega) (by omega)
set_option maxRecDepth 100000
theorem len_ok:allB lenB 0 1024=true:=by kernel_rfl
theorem chord_a:allB (fun k=>allB (chordB k) 0 100) 0 256=true:=by kernel_rfl
theorem chord_b:allB (fun k=>allB (chordB k) 0 100) 256 256=true:=by kernel_rfl
theorem chord_c:allB (fun k=>allB (chordB k) 0 100) 512 256=true:=by kernel_rfl
theorem chord_d:allB (fun k=>allB (chordB k) 0 100) 768 256=true:=by kernel_rfl
end Go.Sky
end
section
namespace Go.Sky
open Go Go.Eng
theorem nn_sq (x:Int):0 ≤ x * x:=by
  rcases Int.le_total 0 x with g | g
  · exact Int.mul_nonneg g g
  · rw [← Int.neg_mul_neg];exact Int.mul_nonneg (by omega) (by omega)
theorem sq_mono {x y:Int} (h0:0 ≤ x) (h:x ≤ y):x * x ≤ y * y:=Int.mul_le_mul h h h0 (by omega)
theorem sq_in {x y:Int} (h1:-y ≤ x) (h2:x ≤ y):x * x ≤ y * y:=by
  rcases Int.le_total 0 x with g | g
  · exact sq_mono g h2
  · rw [← Int.neg_mul_neg];exact sq_mono (by omega) (by omega)
theorem in_sq {x y:Int} (hy:0 ≤ y) (h:x * x ≤ y * y):-y ≤ x ∧ x ≤ y:=by
  constructor
  · rcases Int.lt_or_le x (-y) with g | g
    · exfalso
      have:=sq_mono (x:=y + 1) (y:=-x) (by omega) (by omega)
      rw [Int.neg_mul_neg] at this
      have e:(y + 1) * (y + 1)=y * y + 2 * y + 1:=by grind
      omega
    · exact g
  · rcases Int.lt_or_le y x with g | g
    · exfalso
      have:=sq_mono (x:=y + 1) (y:=x) (by omega) (by omega)
      have e:(y + 1) * (y + 1)=y * y + 2 * y + 1:=by grind
      omega
    · exact g
theorem tri {a b c d R S:Int} (hR:0 ≤ R) (hS:0 ≤ S) (h1:a * a + b * b ≤ R * R) (h2:c * c + d * d ≤ S * S):(a + c) * (a + c) + (b + d) * (b + d) ≤ (R + S) * (R + S):=by
  have hRS:0 ≤ R * S:=Int.mul_nonneg hR hS
  have e1:(a * c + b * d) * (a * c + b * d) + (a * d - b * c) * (a * d - b * c)=(a * a + b * b) * (c * c + d * d):=by grind
  have e2:=nn_sq (a * d - b * c)
  have e3:(a * a + b * b) * (c * c + d * d) ≤ (R * R) * (S * S):=Int.mul_le_mul h1 h2 (by have:=nn_sq c;have:=nn_sq d;omega) (nn_sq R)
  have e4:(R * R) * (S * S)=(R * S) * (R * S):=by grind
  have key:=(in_sq hRS (x:=a * c + b * d) (by omega)).2
  have e7:(a + c) * (a + c) + (b + d) * (b + d)=(a * a + b * b) + (c * c + d * d) + 2 * (a * c + b * d):=by grind
  have e8:(R + S) * (R + S)=R * R + S * S + 2 * (R * S):=by grind
  omega
theorem div_sq {a b R m:Int} (hm:0 < m) (h:(m * a) * (m * a) + (m * b) * (m * b) ≤ (m * R) * (m * R)):a * a + b * b ≤ R * R:=by
  have e1:(m * a) * (m * a) + (m * b) * (m * b)=(m * m) * (a * a + b * b):=by grind
  have e2:(m * R) * (m * R)=(m * m) * (R * R):=by grind
  rw [e1,e2] at h
  exact Int.le_of_mul_le_mul_left h (Int.mul_pos hm hm)
theorem mul_sq {a b R m:Int} (hR:a * a + b * b ≤ R * R):(m * a) * (m * a) + (m * b) * (m * b) ≤ (m * R) * (m * R):=by
  have e1:(m * a) * (m * a) + (m * b) * (m * b)=(m * m) * (a * a + b * b):=by grind
  have e2:(m * R) * (m * R)=(m * m) * (R * R):=by grind
  rw [e1,e2]
  exact Int.mul_le_mul_of_nonneg_left hR (nn_sq m)
theorem quarter_ind {Q:Nat → Prop} (h1:∀ k,k < 1024 → Q k) (h2:∀ k,Q k → Q (k + 1024)):∀ k,Q k:=by
  have key:∀ q i,i < 1024 → Q (i + 1024 * q):=by
    intro q
    induction q with
    | zero=>intro i hi;exact h1 i hi
    | succ q ih =>
      intro i hi
      rw [show i + 1024 * (q + 1)=i + 1024 * q + 1024 by omega]
      exact h2 _ (ih i hi)
  intro k
  have:=key (k / 1024) (k % 1024) (by omega)
  rwa [show k % 1024 + 1024 * (k / 1024)=k by omega] at this
theorem len_all (k:Nat):(268412285 ≤ sn k * sn k + cs k * cs k ∧ sn k * sn k + cs k * cs k ≤ 268458627) ∧ (sn k - sn (k + 1)) * (sn k - sn (k + 1)) + (cs k - cs (k + 1)) * (cs k - cs (k + 1)) ≤ 729:=by
  refine quarter_ind (Q:=fun k=>(268412285 ≤ sn k * sn k + cs k * cs k ∧ sn k * sn k + cs k * cs k ≤ 268458627) ∧ (sn k - sn (k + 1)) * (sn k - sn (k + 1)) + (cs k - cs (k + 1)) * (cs k - cs (k + 1)) ≤ 729) ?_ ?_ k
  · intro k hk
    have h:=allB_at _ 1024 0 len_ok k (by omega) (by omega)
    unfold lenB at h
    simp only [Bool.and_eq_true,decide_eq_true_eq] at h
    exact h
  · intro k h
    rw [show k + 1024 + 1=k + 1 + 1024 by omega,sn_turn,sn_turn,cs_turn,cs_turn]
    generalize sn k=a at *;generalize cs k=b at *;generalize sn (k + 1)=c at *;generalize cs (k + 1)=d at *
    have e1:b * b + -a * -a=a * a + b * b:=by grind
    have e2:(b - d) * (b - d) + (-a - -c) * (-a - -c)=(a - c) * (a - c) + (b - d) * (b - d):=by grind
    rw [e1,e2];exact h
theorem chord_all (k j:Nat) (hj:j < 100):423801 * ((sn k - sn (k + j)) * (sn k - sn (k + j)) + (cs k - cs (k + j)) * (cs k - cs (k + j))) ≤ (16384 * ((j:Int) + 1) - 10416) * (16384 * ((j:Int) + 1) - 10416):=by
  refine quarter_ind (Q:=fun k=>423801 * ((sn k - sn (k + j)) * (sn k - sn (k + j)) + (cs k - cs (k + j)) * (cs k - cs (k + j))) ≤ (16384 * ((j:Int) + 1) - 10416) * (16384 * ((j:Int) + 1) - 10416)) ?_ ?_ k
  · intro k hk
    have h:chordB k j=true:=by
      by_cases c1:k < 256
      · exact allB_at _ 100 0 (allB_at _ 256 0 chord_a k (by omega) (by omega)) j (by omega) (by omega)
      by_cases c2:k < 512
      · exact allB_at _ 100 0 (allB_at _ 256 256 chord_b k (by omega) (by omega)) j (by omega) (by omega)
      by_cases c3:k < 768
      · exact allB_at _ 100 0 (allB_at _ 256 512 chord_c k (by omega) (by omega)) j (by omega) (by omega)
      · exact allB_at _ 100 0 (allB_at _ 256 768 chord_d k (by omega) (by omega)) j (by omega) (by omega)
    exact of_decide_eq_true h
  · intro k h
    rw [show k + 1024 + j=k + j + 1024 by omega,sn_turn,sn_turn,cs_turn,cs_turn]
    generalize sn k=a at *;generalize cs k=b at *;generalize sn (k + j)=c at *;generalize cs (k + j)=d at *
    have e2:(b - d) * (b - d) + (-a - -c) * (-a - -c)=(a - c) * (a - c) + (b - d) * (b - d):=by grind
    rw [e2];exact h
def NearV (a b x y:Int):Prop:=0 ≤ a * x + b * y ∧ 4 * ((b * x - a * y) * (b * x - a * y)) ≤ 729 * (x * x + y * y)
def NearD (h:Nat) (x y:Int):Prop:=NearV (sn h) (cs h) x y
set_option maxRecDepth 20000 in
theorem front_next {k:Nat} {x y:Int} (hk:k < 4096) (h:Sec k x y):0 ≤ sn (k + 1) * x + cs (k + 1) * y:=by
  have first:∀ (i:Nat) (x y:Int),i < 1024 → 0 ≤ x → 0 < y → 0 ≤ sn (i + 1) * x + cs (i + 1) * y:=by
    intro i x y hi hx hy
    rw [sn_q (by omega),cs_q (by omega)]
    have a:=Int.mul_nonneg (Int.natCast_nonneg (quart (i + 1))) hx
    have b:=Int.mul_nonneg (Int.natCast_nonneg (quart (1024 - (i + 1)))) (Int.le_of_lt hy)
    omega
  have turn:∀ (i:Nat) (x y:Int),0 ≤ sn (i + 1) * -y + cs (i + 1) * x → 0 ≤ sn (i + 1024 + 1) * x + cs (i + 1024 + 1) * y:=by
    intro i x y h
    rw [show i + 1024 + 1=i + 1 + 1024 by omega,sn_turn,cs_turn]
    generalize sn (i + 1)=a at *;generalize cs (i + 1)=b at *
    have e:b * x + -a * y=a * -y + b * x:=by grind
    rw [e];exact h
  rcases sec_split hk h with a | a | a | a
  · exact first k x y a.1 a.2.1 a.2.2.1
  · have:=first (k - 1024) (-y) x (by omega) a.2.2.1 a.2.2.2.1
    have t:=turn (k - 1024) x y this
    rwa [show k - 1024 + 1024=k by omega] at t
  · have:=first (k - 2048) (-x) (-y) (by omega) a.2.2.1 a.2.2.2.1
    have t:=turn (k - 2048) (-y) x (by exact this)
    have t2:=turn (k - 2048 + 1024) x y t
    rwa [show k - 2048 + 1024 + 1024=k by omega] at t2
  · have:=first (k - 3072) y (-x) (by omega) a.2.1 a.2.2.1
    have t:=turn (k - 3072) (-x) (-y) (by rw [Int.neg_neg];exact this)
    have t2:=turn (k - 3072 + 1024) (-y) x (by exact t)
    have t3:=turn (k - 3072 + 1024 + 1024) x y t2
    rwa [show k - 3072 + 1024 + 1024 + 1024=k by omega] at t3
theorem cauchy (a b x y:Int):(a * x + b * y) * (a * x + b * y) ≤ (a * a + b * b) * (x * x + y * y):=by
  have e:(a * x + b * y) * (a * x + b * y) + (a * y - b * x) * (a * y - b * x)=(a * a + b * b) * (x * x + y * y):=by grind
  have:=nn_sq (a * y - b * x)
  omega
theorem near_of_sec {k:Nat} {x y:Int} (hk:k < 4096) (h:Sec k x y) :
    (cs k * x - sn k * y ≤ y * sn (k + 1) - x * cs (k + 1) → NearD k x y) ∧ (¬ cs k * x - sn k * y ≤ y * sn (k + 1) - x * cs (k + 1) → NearD (k + 1) x y):=by
  have hc:=cauchy (cs k - cs (k + 1)) (-(sn k - sn (k + 1))) x y
  have hl:=(len_all k).2
  have hf:=front_next hk h
  obtain ⟨h1,h2,h3⟩:=h
  unfold NearD
  generalize sn k=a at *;generalize cs k=b at *;generalize sn (k + 1)=c at *;generalize cs (k + 1)=d at *
  have e0:(b - d) * (b - d) + -(a - c) * -(a - c)=(a - c) * (a - c) + (b - d) * (b - d):=by grind
  rw [e0] at hc
  have hn:0 ≤ x * x + y * y:=by have:=nn_sq x;have:=nn_sq y;omega
  have h729:((a - c) * (a - c) + (b - d) * (b - d)) * (x * x + y * y) ≤ 729 * (x * x + y * y):=Int.mul_le_mul_of_nonneg_right hl hn
  have e1:(b - d) * x + -(a - c) * y=(b * x - a * y) + (y * c - x * d):=by grind
  rw [e1] at hc
  generalize hp:b * x - a * y=p at *
  generalize hq:y * c - x * d=q at *
  constructor
  · intro hle
    have s:=sq_mono (x:=2 * p) (y:=p + q) (by omega) (by omega)
    have e2:(2 * p) * (2 * p)=4 * (p * p):=by grind
    exact ⟨by omega,by rw [hp];omega⟩
  · intro hlt
    have s:=sq_mono (x:=2 * q) (y:=p + q) (by omega) (by omega)
    have e2:(2 * q) * (2 * q)=4 * (q * q):=by grind
    have e3:d * x - c * y=-q:=by rw [← hq];grind
    exact ⟨hf,by rw [e3,Int.neg_mul_neg];omega⟩
theorem NearD.round {k:Nat} {x y:Int} (h:NearD k x y):NearD (k % 4096) x y:=by
  unfold NearD at *
  rw [sn_round,cs_round];exact h
section
variable {h:Nat} {x y r:Int}
theorem away (hN:NearD h x y) (hr:0 ≤ r) (h1:r * r ≤ x * x + y * y) (h2:x * x + y * y < (r + 1) * (r + 1)) :
    (16384 * x - r * sn h) * (16384 * x - r * sn h) + (16384 * y - r * cs h) * (16384 * y - r * cs h) ≤ (16 * r + 16401) * (16 * r + 16401):=by
  obtain ⟨f,sd⟩:=hN
  have hU:=(len_all h).1
  generalize sn h=a at *;generalize cs h=b at *
  obtain ⟨U,eU⟩:∃ U,a * a + b * b=U:=⟨_,rfl⟩
  obtain ⟨n,en⟩:∃ n,x * x + y * y=n:=⟨_,rfl⟩
  obtain ⟨g,eg⟩:∃ g,a * x + b * y=g:=⟨_,rfl⟩
  obtain ⟨c,ec⟩:∃ c,b * x - a * y=c:=⟨_,rfl⟩
  have lag:g * g + c * c=n * U:=by rw [← eg,← ec,← en,← eU];grind
  have ident:U * ((16384 * x - r * a) * (16384 * x - r * a) + (16384 * y - r * b) * (16384 * y - r * b))=(16384 * g - U * r) * (16384 * g - U * r) + (16384 * c) * (16384 * c):=by
    have i1:(16384 * x - r * a) * (16384 * x - r * a) + (16384 * y - r * b) * (16384 * y - r * b)=268435456 * n - 32768 * r * g + r * r * U:=by rw [← en,← eg,← eU];grind
    have i2:(16384 * g - U * r) * (16384 * g - U * r) + (16384 * c) * (16384 * c)=268435456 * (g * g + c * c) - 32768 * g * U * r + U * r * (U * r):=by grind
    rw [i1,i2,lag];grind
  rw [eU] at hU
  rw [eg] at f
  rw [ec,en] at sd
  rw [en] at h1 h2
  have cc:=nn_sq c
  have n0:0 ≤ n:=by have:=nn_sq r;omega
  have g1:g * g ≤ (16385 * (r + 1)) * (16385 * (r + 1)):=by
    have q1:n * U ≤ ((r + 1) * (r + 1)) * 268468225:=Int.mul_le_mul (by omega) (by omega) (by omega) (nn_sq _)
    have q2:(16385 * (r + 1)) * (16385 * (r + 1))=((r + 1) * (r + 1)) * 268468225:=by grind
    omega
  have g2:=(in_sq (by omega) g1).2
  have g3:(16383 * r) * (16383 * r) ≤ g * g:=by
    have q1:(r * r) * 1073648411 ≤ n * (4 * U - 729):=Int.mul_le_mul h1 (by omega) (by omega) n0
    have q2:n * (4 * U - 729)=4 * (n * U) - 729 * n:=by grind
    have q3:(16383 * r) * (16383 * r)=(r * r) * 268402689:=by grind
    have:=nn_sq r
    omega
  have g4:16383 * r ≤ g:=by
    rcases Int.lt_or_le g (16383 * r) with hlt | hle
    · exfalso
      have:=sq_mono (x:=g + 1) (y:=16383 * r) (by omega) (by omega)
      have e:(g + 1) * (g + 1)=g * g + 2 * g + 1:=by grind
      omega
    · exact hle
  have ur1:U * r ≤ 268458627 * r:=Int.mul_le_mul_of_nonneg_right (by omega) hr
  have ur2:268412285 * r ≤ U * r:=Int.mul_le_mul_of_nonneg_right (by omega) hr
  have al1:16384 * g - U * r ≤ 39555 * r + 268451840:=by omega
  have al2:-(39555 * r + 268451840) ≤ 16384 * g - U * r:=by omega
  have c1:(2 * c) * (2 * c) ≤ (27 * (r + 1)) * (27 * (r + 1)):=by
    have q1:(2 * c) * (2 * c)=4 * (c * c):=by grind
    have q2:(27 * (r + 1)) * (27 * (r + 1))=729 * ((r + 1) * (r + 1)):=by grind
    omega
  have c2:=in_sq (by omega) c1
  have b1:(16384 * g - U * r) * (16384 * g - U * r) ≤ (39555 * r + 268451840) * (39555 * r + 268451840):=sq_in al2 al1
  have b2:(16384 * c) * (16384 * c) ≤ (221184 * (r + 1)) * (221184 * (r + 1)):=sq_in (by omega) (by omega)
  have b3:(39555 * r + 268451840) * (39555 * r + 268451840) + (221184 * (r + 1)) * (221184 * (r + 1)) ≤ (39555 * r + 268451840 + 221184 * (r + 1)) * (39555 * r + 268451840 + 221184 * (r + 1)):=by
    have q:=Int.mul_nonneg (show 0 ≤ 39555 * r + 268451840 by omega) (show 0 ≤ 221184 * (r + 1) by omega)
    generalize 39555 * r + 268451840=A at *
    generalize 221184 * (r + 1)=B at *
    have e:(A + B) * (A + B)=A * A + B * B + 2 * (A * B):=by grind
    omega
  have b4:(39555 * r + 268451840 + 221184 * (r + 1)) * (39555 * r + 268451840 + 221184 * (r + 1)) ≤ (16383 * (16 * r + 16401)) * (16383 * (16 * r + 16401)):=sq_mono (by omega) (by omega)
  have b5:(16383 * (16 * r + 16401)) * (16383 * (16 * r + 16401)) ≤ U * ((16 * r + 16401) * (16 * r + 16401)):=by
    have q:(16383 * (16 * r + 16401)) * (16383 * (16 * r + 16401))=268402689 * ((16 * r + 16401) * (16 * r + 16401)):=by grind
    rw [q]
    exact Int.mul_le_mul_of_nonneg_right (by omega) (nn_sq _)
  refine Int.le_of_mul_le_mul_left (a:=U) ?_ (by omega)
  omega
theorem away_rho {p:Int} (hN:NearD h x y) (hr:0 ≤ r) (h1:r * r ≤ x * x + y * y) (h2:x * x + y * y < (r + 1) * (r + 1)) (hp:0 ≤ p) {m:Int} (hm1:p - r ≤ m) (hm2:r - p ≤ m) :
    (16384 * x - p * sn h) * (16384 * x - p * sn h) + (16384 * y - p * cs h) * (16384 * y - p * cs h) ≤ (16384 * m + 16 * p + 16401) * (16384 * m + 16 * p + 16401):=by
  have hE:=away hN hr h1 h2
  have hU:=(len_all h).1
  generalize sn h=a at *;generalize cs h=b at *
  by_cases c:r ≤ p
  · have q1:(-((p - r) * a)) * (-((p - r) * a)) + (-((p - r) * b)) * (-((p - r) * b)) ≤ (16385 * (p - r)) * (16385 * (p - r)):=by
      have e1:(-((p - r) * a)) * (-((p - r) * a)) + (-((p - r) * b)) * (-((p - r) * b))=((p - r) * (p - r)) * (a * a + b * b):=by grind
      have e2:(16385 * (p - r)) * (16385 * (p - r))=((p - r) * (p - r)) * 268468225:=by grind
      rw [e1,e2]
      exact Int.mul_le_mul_of_nonneg_left (by omega) (nn_sq _)
    have t:=tri (by omega) (by omega) hE q1
    have e3:16384 * x - r * a + -((p - r) * a)=16384 * x - p * a:=by grind
    have e4:16384 * y - r * b + -((p - r) * b)=16384 * y - p * b:=by grind
    rw [e3,e4] at t
    exact Int.le_trans t (sq_mono (by omega) (by omega))
  · have hrp:0 < r:=by omega
    refine Int.le_trans ?_ (sq_mono (x:=16384 * (r - p) + 16 * p + 16401) (by omega) (by omega))
    refine div_sq hrp ?_
    have q1:(16384 * (r - p) * x) * (16384 * (r - p) * x) + (16384 * (r - p) * y) * (16384 * (r - p) * y) ≤ (16384 * (r - p) * (r + 1)) * (16384 * (r - p) * (r + 1)):=by
      refine mul_sq ?_
      omega
    have q2:=mul_sq (m:=p) hE
    have n1:0 ≤ 16384 * (r - p) * (r + 1):=Int.mul_nonneg (by omega) (by omega)
    have n2:0 ≤ p * (16 * r + 16401):=Int.mul_nonneg hp (by omega)
    have t:=tri n1 n2 q1 q2
    have e3:16384 * (r - p) * x + p * (16384 * x - r * a)=r * (16384 * x - p * a):=by grind
    have e4:16384 * (r - p) * y + p * (16384 * y - r * b)=r * (16384 * y - p * b):=by grind
    rw [e3,e4] at t
    refine Int.le_trans t (sq_mono (by omega) ?_)
    have e5:r * (16384 * (r - p) + 16 * p + 16401) - (16384 * (r - p) * (r + 1) + p * (16 * r + 16401))=17 * (r - p):=by grind
    omega
theorem place_near {p A R e vx vy:Int} {g j:Nat} (hN:NearD h x y) (hr:0 ≤ r) (h1:r * r ≤ x * x + y * y) (h2:x * x + y * y < (r + 1) * (r + 1)) (hp:0 ≤ p) (hm1:p - r ≤ R - 1) (hm2:r - p ≤ R - 1)
    (hg:g=h + j ∨ h=g + j) (hj:(j:Int) + 1 ≤ A) (hA:A ≤ 100) (hvx:-8192 ≤ p * sn g - 16384 * vx ∧ p * sn g - 16384 * vx ≤ 8192) (hvy:-8192 ≤ p * cs g - 16384 * vy ∧ p * cs g - 16384 * vy ≤ 8192)
    (he:651 * (R + 2) + p * A ≤ 651 * e):(x - vx) * (x - vx) + (y - vy) * (y - vy) ≤ e * e:=by
  have t1:=mul_sq (m:=651) (away_rho hN hr h1 h2 hp hm1 hm2)
  have hch:423801 * ((sn h - sn g) * (sn h - sn g) + (cs h - cs g) * (cs h - cs g)) ≤ (16384 * ((j:Int) + 1) - 10416) * (16384 * ((j:Int) + 1) - 10416):=by
    rcases hg with rfl | rfl
    · exact chord_all h j (by omega)
    · have:=chord_all g j (by omega)
      generalize sn g=a at *;generalize cs g=b at *;generalize sn (g + j)=c at *;generalize cs (g + j)=d at *
      have e:(c - a) * (c - a) + (d - b) * (d - b)=(a - c) * (a - c) + (b - d) * (b - d):=by grind
      rw [e];exact this
  have hch2:(651 * (sn h - sn g)) * (651 * (sn h - sn g)) + (651 * (cs h - cs g)) * (651 * (cs h - cs g)) ≤ (16384 * A - 10416) * (16384 * A - 10416):=by
    have e:(651 * (sn h - sn g)) * (651 * (sn h - sn g)) + (651 * (cs h - cs g)) * (651 * (cs h - cs g))=423801 * ((sn h - sn g) * (sn h - sn g) + (cs h - cs g) * (cs h - cs g)):=by grind
    rw [e]
    exact Int.le_trans hch (sq_mono (by omega) (by omega))
  have t2:=mul_sq (m:=p) hch2
  have t3:(651 * (p * sn g - 16384 * vx)) * (651 * (p * sn g - 16384 * vx)) + (651 * (p * cs g - 16384 * vy)) * (651 * (p * cs g - 16384 * vy)) ≤ (651 * 11586) * (651 * 11586):=by
    refine mul_sq ?_
    have a:=sq_in hvx.1 hvx.2
    have b:=sq_in hvy.1 hvy.2
    omega
  have n2:0 ≤ p * (16384 * A - 10416):=Int.mul_nonneg hp (by omega)
  have u1:=tri (by omega) n2 t1 t2
  have u2:=tri (by omega) (by decide) u1 t3
  generalize sn h=a at *;generalize cs h=b at *;generalize sn g=c at *;generalize cs g=d at *
  have e1:651 * (16384 * x - p * a) + p * (651 * (a - c)) + 651 * (p * c - 16384 * vx)=10665984 * (x - vx):=by grind
  have e2:651 * (16384 * y - p * b) + p * (651 * (b - d)) + 651 * (p * d - 16384 * vy)=10665984 * (y - vy):=by grind
  rw [e1,e2] at u2
  refine div_sq (m:=10665984) (by decide) (Int.le_trans u2 (sq_mono (by omega) ?_))
  have e3:p * (16384 * A - 10416)=16384 * (p * A) - 10416 * p:=by grind
  omega
end
end Go.Sky
end
section
namespace Go.Sky
open Go Go.Eng
theorem rout {n a b:Int}:radar_out n a b=false → a ≤ n ∧ n ≤ b:=by
  unfold radar_out
  intro h
  simp only [Bool.or_eq_false_iff,decide_eq_false_iff_not] at h
  omega
theorem rin {n a b:Int} (h:a ≤ n ∧ n ≤ b):radar_out n a b=false:=by
  unfold radar_out
  simp only [Bool.or_eq_false_iff,decide_eq_false_iff_not]
  omega
def PIn (p:P):Prop:=-1000000 ≤ p.X ∧ p.X ≤ 1000000 ∧ -1000000 ≤ p.Y ∧ p.Y ≤ 1000000
theorem pcheck {p:P} (h:plane_Check p=0):PIn p:=by
  unfold plane_Check at h
  unfold PIn
  cases hc:((((decide (p.X < (-1000000))) || (decide (p.X > 1000000))) || (decide (p.Y < (-1000000)))) || (decide (p.Y > 1000000))) with
  | true=>rw [hc] at h;cases h
  | false =>
    simp only [Bool.or_eq_false_iff,decide_eq_false_iff_not] at hc
    omega
structure SiteIn (s:RadarSite):Prop where
  id:0 ≤ s.ID ∧ s.ID ≤ 255
  at_:PIn s.At
  reach:1 ≤ s.Reach ∧ s.Reach ≤ 1000000
  rerr:1 ≤ s.RangeError ∧ s.RangeError ≤ 10000
  aerr:1 ≤ s.AzimuthError ∧ s.AzimuthError ≤ 100
theorem bne_F {a:Int} (h:(a != 0)=false):a=0:=by simpa using h
theorem check_in {s:RadarSite} (h:radar_Check s=0):SiteIn s:=by
  unfold radar_Check at h
  simp only at h
  cases h1:radar_out s.ID 0 255 <;> rw [h1] at h <;> simp only [cond_true,cond_false] at h
  case true=>cases h
  cases h2:(plane_Check s.At != 0) <;> rw [h2] at h <;> simp only [cond_true,cond_false] at h
  case true=>cases h
  cases h3:radar_out s.Reach 1 1000000 <;> rw [h3] at h <;> simp only [cond_true,cond_false] at h
  case true=>cases h
  cases h4:radar_out s.RangeError 1 10000 <;> rw [h4] at h <;> simp only [cond_true,cond_false] at h
  case true=>cases h
  cases h5:radar_out s.AzimuthError 1 100 <;> rw [h5] at h <;> simp only [cond_true,cond_false] at h
  case true=>cases h
  exact ⟨rout h1,pcheck (bne_F h2),rout h3,rout h4,rout h5⟩
structure SpotIn (t:Spot):Prop where
  time:0 ≤ t.Time ∧ t.Time ≤ 200000
  at_:PIn t.At
  height:0 ≤ t.Height ∧ t.Height ≤ 60000
  code:-1 ≤ t.Code ∧ t.Code ≤ 4095
theorem spot_in {t:Spot} (h:radar_CheckSpot t=0):SpotIn t:=by
  unfold radar_CheckSpot at h
  simp only at h
  cases h1:radar_out t.Time 0 200000 <;> rw [h1] at h <;> simp only [cond_true,cond_false] at h
  case true=>cases h
  cases h2:(plane_Check t.At != 0) <;> rw [h2] at h <;> simp only [cond_true,cond_false] at h
  case true=>cases h
  cases h3:radar_out t.Height 0 60000 <;> rw [h3] at h <;> simp only [cond_true,cond_false] at h
  case true=>cases h
  cases h4:radar_out t.Code (-1) 4095 <;> rw [h4] at h <;> simp only [cond_true,cond_false] at h
  case true=>cases h
  exact ⟨rout h1,pcheck (bne_F h2),rout h3,rout h4⟩
theorem sq_bd {x n:Int} (h:-n ≤ x ∧ x ≤ n):0 ≤ x * x ∧ x * x ≤ n * n:=⟨nn_sq x,sq_in h.1 h.2⟩
theorem psquare {p q:P} (hp:PIn p) (hq:PIn q):plane_Square p q=(p.X - q.X) * (p.X - q.X) + (p.Y - q.Y) * (p.Y - q.Y) ∧ (p.X - q.X) * (p.X - q.X) + (p.Y - q.Y) * (p.Y - q.Y) ≤ 8000000000000:=by
  unfold PIn at hp hq
  have a:=sq_bd (x:=p.X - q.X) (n:=2000000) (by omega)
  have b:=sq_bd (x:=p.Y - q.Y) (n:=2000000) (by omega)
  unfold plane_Square plane_Sub plane_Dot
  simp only
  rw [w64_id (x:=p.X - q.X) (by omega),w64_id (x:=p.Y - q.Y) (by omega),w64_id (x:=(p.X - q.X) * (p.X - q.X)) (by omega),w64_id (x:=(p.Y - q.Y) * (p.Y - q.Y)) (by omega),w64_id (by omega)]
  exact ⟨rfl,by omega⟩
def sqr (a b:P):Int:=w64 ((w64 ((w64 (a.X - b.X)) * (w64 (a.X - b.X)))) + (w64 ((w64 (a.Y - b.Y)) * (w64 (a.Y - b.Y)))))
theorem ksquare {p q:P} (hp:PIn p) (hq:PIn q):sqr p q=(p.X - q.X) * (p.X - q.X) + (p.Y - q.Y) * (p.Y - q.Y):=by
  unfold PIn at hp hq
  have a:=sq_bd (x:=p.X - q.X) (n:=2000000) (by omega)
  have b:=sq_bd (x:=p.Y - q.Y) (n:=2000000) (by omega)
  unfold sqr
  rw [w64_id (x:=p.X - q.X) (by omega),w64_id (x:=p.Y - q.Y) (by omega),w64_id (x:=(p.X - q.X) * (p.X - q.X)) (by omega),w64_id (x:=(p.Y - q.Y) * (p.Y - q.Y)) (by omega),w64_id (by omega)]
theorem root_lp (n:Int) (hn:n ≤ 8000000000000):∀ (j:Nat) (a b:Int),(0 ≤ a ∧ a ≤ b ∧ b ≤ 3037000499 ∧ b - a < 2 ^ j) → a * a ≤ n → n < (b + 1) * (b + 1) → ∃ R,num_Root_L1 n (j + 1) a b=some R ∧ 0 ≤ R ∧ R * R ≤ n ∧ n < (R + 1) * (R + 1)
  | 0,a,b,h,h5,h6=>by
    have e:(2:Int) ^ 0=1:=rfl
    have hab:a=b:=by omega
    exact ⟨a,by rw [num_Root_L1,decide_eq_false (by omega)];rfl,h.1,h5,by rw [hab];exact h6⟩
  | j + 1,a,b,h,h5,h6=>by
    have e:(2:Int) ^ (j + 1)=2 * 2 ^ j:=by rw [Int.pow_succ];omega
    by_cases hk:a < b
    · have w1:w64 (w64 (b - a) + 1)=b - a + 1:=by rw [w64_id (x:=b - a) (by omega),w64_id (by omega)]
      have d1:(b - a + 1).tdiv 2=(b - a + 1) / 2:=Int.tdiv_eq_ediv_of_nonneg (by omega)
      have w2:w64 ((w64 (w64 (b - a) + 1)).tdiv 2)=(b - a + 1) / 2:=by rw [w1,d1,w64_id (by omega)]
      have w3:w64 (a + w64 ((w64 (w64 (b - a) + 1)).tdiv 2))=a + (b - a + 1) / 2:=by rw [w2,w64_id (by omega)]
      have m1:=sq_bd (x:=a + (b - a + 1) / 2) (n:=3037000499) (by omega)
      rw [num_Root_L1,decide_eq_true hk]
      simp only [cond_true,w3]
      rw [w64_id (x:=(a + (b - a + 1) / 2) * (a + (b - a + 1) / 2)) (by omega)]
      by_cases hc:(a + (b - a + 1) / 2) * (a + (b - a + 1) / 2) ≤ n
      · rw [decide_eq_true hc,cond_true]
        exact root_lp n hn j _ b (by omega) hc h6
      · rw [decide_eq_false hc,cond_false,w64_id (by omega)]
        exact root_lp n hn j a _ (by omega) h5 (by rw [show a + (b - a + 1) / 2 - 1 + 1=a + (b - a + 1) / 2 by omega];omega)
    · have hab:a=b:=by omega
      exact ⟨a,by rw [num_Root_L1,decide_eq_false hk];rfl,h.1,h5,by rw [hab];exact h6⟩
theorem root_is {n:Int} (h:0 ≤ n ∧ n ≤ 8000000000000):0 ≤ num_Root n ∧ num_Root n * num_Root n ≤ n ∧ n < (num_Root n + 1) * (num_Root n + 1):=by
  by_cases h0:n ≤ 0
  · have e:num_Root n=0:=by unfold num_Root;rw [decide_eq_true h0];rfl
    rw [e];omega
  · obtain ⟨R,h1,h2⟩:=root_lp n h.2 33 0 3037000499 (by decide) (by omega) (by omega)
    have e:num_Root n=R:=by unfold num_Root bindv;rw [decide_eq_false h0,cond_false,h1];rfl
    rw [e];exact h2
theorem dist_fst (p q:P):(plane_Distance p q).1=num_Root (plane_Square p q):=by
  unfold plane_Distance
  simp only
  cases decide (w64 (num_Root (plane_Square p q) * num_Root (plane_Square p q)) < plane_Square p q) <;> rfl
theorem err_is {s:RadarSite} {far:Int} (hs:SiteIn s) (hf:0 ≤ far ∧ far ≤ 2000000) (h:radar_Check s=0):(radar_Error s far).1=s.RangeError + -(-(far * s.AzimuthError) / 651) + -(-far / 23170) + 2 ∧ 0 ≤ far * s.AzimuthError:=by
  have hm:0 ≤ far * s.AzimuthError ∧ far * s.AzimuthError ≤ 200000000:=by
    have a:=hs.aerr
    exact ⟨Int.mul_nonneg hf.1 (by omega),Int.le_trans (Int.mul_le_mul hf.2 a.2 (by omega) (by decide)) (by decide)⟩
  have r:=hs.rerr
  refine ⟨?_,hm.1⟩
  unfold radar_Error
  simp only
  rw [h,rin (show (0:Int) ≤ far ∧ far ≤ 2000000 from hf)]
  simp only [bne_self_eq_false,cond_false]
  rw [w64_id (x:=far * s.AzimuthError) (by omega),divUp_eq (by decide) (by omega),divUp_eq (by decide) (by omega)]
  simp only
  rw [w64_id (x:=s.RangeError + -(-(far * s.AzimuthError) / 651)) (by omega),w64_id (x:=s.RangeError + -(-(far * s.AzimuthError) / 651) + -(-far / 23170)) (by omega),w64_id (by omega)]
theorem near_bd (n:Int):-8192 ≤ n - 16384 * nearF n ∧ n - 16384 * nearF n ≤ 8192:=by unfold nearF;split <;> omega
theorem vec_is {g:Nat} {p:Int} (hp:0 ≤ p ∧ p ≤ 2000000):angle_Vector g p=(⟨nearF (p * sn g),nearF (p * cs g)⟩,0):=by
  have a:=mul_in (sn_in g) (b:=p) (by omega)
  have b:=mul_in (cs_in g) (b:=p) (by omega)
  unfold angle_Vector
  simp only
  rw [sin_nat,cos_nat,decide_eq_false (show ¬ p < 0 by omega),decide_eq_false (show ¬ p > 2000000 by omega)]
  simp only [Bool.or_self,cond_false]
  rw [w64_id (by rw [Int.mul_comm];omega),w64_id (by rw [Int.mul_comm];omega)]
theorem vec_in2 {g:Nat} {p:Int} (hp:0 ≤ p ∧ p ≤ 2000000):(-2000002 ≤ nearF (p * sn g) ∧ nearF (p * sn g) ≤ 2000002) ∧ (-2000002 ≤ nearF (p * cs g) ∧ nearF (p * cs g) ≤ 2000002):=by
  have a:=mul_in (sn_in g) (b:=p) (by omega)
  have b:=mul_in (cs_in g) (b:=p) (by omega)
  rw [Int.mul_comm] at a b
  have c:=near_bd (p * sn g)
  have d:=near_bd (p * cs g)
  omega
theorem spot_ok {s:RadarSite} {p:Plot} (h:(radar_Spot s p).2=0):SiteIn s ∧ (0 ≤ p.Range ∧ p.Range ≤ 2000000) ∧ (0 ≤ p.Azimuth ∧ p.Azimuth ≤ 4095) ∧ ∃ vx vy:Int,vx=nearF (p.Range * sn p.Azimuth.toNat) ∧ vy=nearF (p.Range * cs p.Azimuth.toNat) ∧
    (radar_Spot s p).1.At=⟨s.At.X + vx,s.At.Y + vy⟩ ∧ PIn (radar_Spot s p).1.At ∧ (radar_Spot s p).1.Error=s.RangeError + -(-(p.Range * s.AzimuthError) / 651) + -(-p.Range / 23170) + 2 ∧ (radar_Spot s p).1.Error ≤ 1000000 ∧
    (radar_Spot s p).1.Time=p.Time ∧ (radar_Spot s p).1.Height=p.Height ∧ (radar_Spot s p).1.Code=p.Code:=by
  unfold radar_Spot at h ⊢
  simp only at h ⊢
  cases h1:(radar_Check s != 0) <;> rw [h1] at h <;> simp only [cond_true,cond_false] at h ⊢
  case true=>rw [h] at h1;cases h1
  cases h2:(radar_CheckPlot p != 0) <;> rw [h2] at h <;> simp only [cond_true,cond_false] at h ⊢
  case true=>rw [h] at h2;cases h2
  cases h3:(p.Radar != s.ID) <;> rw [h3] at h <;> simp only [cond_true,cond_false] at h ⊢
  case true=>cases h
  have hs:=check_in (bne_F h1)
  have hp:(0 ≤ p.Range ∧ p.Range ≤ 2000000) ∧ (0 ≤ p.Azimuth ∧ p.Azimuth ≤ 4095):=by
    have q:=bne_F h2
    unfold radar_CheckPlot at q
    simp only at q
    cases g1:radar_out p.Radar 0 255 <;> rw [g1] at q <;> simp only [cond_true,cond_false] at q
    case true=>cases q
    cases g2:radar_out p.Time 0 200000 <;> rw [g2] at q <;> simp only [cond_true,cond_false] at q
    case true=>cases q
    cases g3:radar_out p.Range 0 2000000 <;> rw [g3] at q <;> simp only [cond_true,cond_false] at q
    case true=>cases q
    cases g4:radar_out p.Azimuth 0 4095 <;> rw [g4] at q <;> simp only [cond_true,cond_false] at q
    case true=>cases q
    exact ⟨rout g3,rout g4⟩
  have hz:(p.Azimuth.toNat:Int)=p.Azimuth:=Int.toNat_of_nonneg hp.2.1
  have hv:=vec_is (g:=p.Azimuth.toNat) hp.1
  rw [hz] at hv
  rw [hv] at h ⊢
  have hb:=vec_in2 (g:=p.Azimuth.toNat) hp.1
  have ha:=hs.at_
  have he:=(err_is hs hp.1 (bne_F h1)).1
  unfold PIn at ha
  simp only at h ⊢
  have hadd:plane_Add s.At ⟨nearF (p.Range * sn p.Azimuth.toNat),nearF (p.Range * cs p.Azimuth.toNat)⟩=⟨s.At.X + nearF (p.Range * sn p.Azimuth.toNat),s.At.Y + nearF (p.Range * cs p.Azimuth.toNat)⟩:=by
    unfold plane_Add
    simp only
    rw [w64_id (by omega),w64_id (by omega)]
  rw [hadd] at h ⊢
  cases h4:((plane_Check ⟨s.At.X + nearF (p.Range * sn p.Azimuth.toNat),s.At.Y + nearF (p.Range * cs p.Azimuth.toNat)⟩ != 0) || (decide ((radar_Error s p.Range).1 > 1000000))) <;> rw [h4] at h <;> simp only [cond_true,cond_false] at h ⊢
  case true=>cases h
  rw [Bool.or_eq_false_iff] at h4
  have h5:=of_decide_eq_false h4.2
  exact ⟨hs,hp.1,hp.2,_,_,rfl,rfl,rfl,pcheck (bne_F h4.1),he,by omega,by first | trivial | simp⟩
theorem plot_ok {s:RadarSite} {t:Spot} (h:(radar_Plot s t).2=0):radar_Check s=0 ∧ SiteIn s ∧ SpotIn t ∧ plane_Within s.At t.At s.Reach=true ∧
    (radar_Plot s t).1=⟨s.ID,t.Time,num_Root (plane_Square s.At t.At),if s.At=t.At then 0 else (ofF (plane_Sub t.At s.At)).1,t.Height,t.Code⟩:=by
  unfold radar_Plot at h ⊢
  simp only at h ⊢
  cases h1:(radar_Check s != 0) <;> rw [h1] at h <;> simp only [cond_true,cond_false] at h ⊢
  case true=>rw [h] at h1;cases h1
  cases h2:(radar_CheckSpot t != 0) <;> rw [h2] at h <;> simp only [cond_true,cond_false] at h ⊢
  case true=>rw [h] at h2;cases h2
  cases h3:plane_Within s.At t.At s.Reach <;> rw [h3] at h <;> simp only [Bool.not_false,Bool.not_true,cond_true,cond_false] at h ⊢
  · cases h
  refine ⟨bne_F h1,check_in (bne_F h1),spot_in (bne_F h2),by first | rfl | trivial,?_⟩
  rw [dist_fst,P.eqb_eq]
  by_cases he:s.At=t.At
  · rw [decide_eq_true he,if_pos he];rfl
  · rw [decide_eq_false he,if_neg he];rfl
theorem of_near {v:P} (hv:OfIn v) (h0:¬ (v.X=0 ∧ v.Y=0)):(0 ≤ (ofF v).1 ∧ (ofF v).1 < 4096) ∧ NearD (ofF v).1.toNat v.X v.Y:=by
  obtain ⟨h1,h2⟩:=secN_ok h0
  obtain ⟨n1,n2⟩:=near_of_sec h1 h2
  unfold OfIn at hv
  unfold ofF
  rw [if_neg (by omega),if_neg h0]
  simp only
  by_cases c:cs (secN v.X v.Y) * v.X - sn (secN v.X v.Y) * v.Y ≤ v.Y * sn (secN v.X v.Y + 1) - v.X * cs (secN v.X v.Y + 1)
  · rw [if_pos c,Int.toNat_natCast]
    exact ⟨by omega,n1 c⟩
  · rw [if_neg c,Int.toNat_natCast]
    have n:=n2 c
    refine ⟨by omega,?_⟩
    unfold NearD at n ⊢
    rw [sn_round,cs_round];exact n
theorem sn_up (k:Nat):sn (k + 4096)=sn k:=by unfold sn;rw [Nat.add_mod_right]
theorem cs_up (k:Nat):cs (k + 4096)=cs k:=by unfold cs;rw [show (k + 4096 + 1024) % 4096=(k + 1024) % 4096 by omega]
theorem plot_place {s:RadarSite} {t:Spot} {p:Plot} {u:Int} (hs:(radar_Plot s t).2=0) (hne:s.At ≠ t.At) (hr:p.Range - (radar_Plot s t).1.Range ≤ s.RangeError - 1 ∧ (radar_Plot s t).1.Range - p.Range ≤ s.RangeError - 1)
    (hu:1 - s.AzimuthError ≤ u ∧ u ≤ s.AzimuthError - 1) (ha:p.Azimuth=((radar_Plot s t).1.Azimuth + u + 4096) % 4096) (hx:(radar_Spot s p).2=0) :
    sqr (radar_Spot s p).1.At t.At ≤ (radar_Spot s p).1.Error * (radar_Spot s p).1.Error:=by
  obtain ⟨_,hS,hT,hw,hp⟩:=plot_ok hs
  rw [hp] at hr ha
  simp only [if_neg hne] at hr ha
  obtain ⟨_,h1,h2,vx,vy,e1,e2,e3,e4,e5,e6,_⟩:=spot_ok hx
  rw [ksquare e4 hT.at_,e3]
  simp only
  have q:=psquare hS.at_ hT.at_
  have a1:=hS.at_
  have a2:=hT.at_
  unfold PIn at a1 a2
  have hX:plane_Sub t.At s.At=⟨t.At.X - s.At.X,t.At.Y - s.At.Y⟩:=by unfold plane_Sub;rw [w64_id (by omega),w64_id (by omega)]
  have h0:¬ (t.At.X - s.At.X=0 ∧ t.At.Y - s.At.Y=0):=by
    rintro ⟨z1,z2⟩
    refine hne ?_
    have b1:s.At.X=t.At.X:=by omega
    have b2:s.At.Y=t.At.Y:=by omega
    rcases hsA:s.At with ⟨sx,sy⟩
    rcases htA:t.At with ⟨tx,ty⟩
    rw [hsA,htA] at b1 b2
    simp only at b1 b2
    rw [b1,b2]
  obtain ⟨o1,o2⟩:=of_near (v:=⟨t.At.X - s.At.X,t.At.Y - s.At.Y⟩) (by unfold OfIn;simp only;omega) h0
  rw [hX] at ha
  simp only at o2
  generalize (ofF ⟨t.At.X - s.At.X,t.At.Y - s.At.Y⟩).1=H at o1 o2 ha
  rw [q.1] at hr
  have sqs:(s.At.X - t.At.X) * (s.At.X - t.At.X) + (s.At.Y - t.At.Y) * (s.At.Y - t.At.Y)=(t.At.X - s.At.X) * (t.At.X - s.At.X) + (t.At.Y - s.At.Y) * (t.At.Y - s.At.Y):=by grind
  have n0:=nn_sq (s.At.X - t.At.X)
  have n1:=nn_sq (s.At.Y - t.At.Y)
  obtain ⟨r0,r1,r2⟩:=root_is (n:=(s.At.X - t.At.X) * (s.At.X - t.At.X) + (s.At.Y - t.At.Y) * (s.At.Y - t.At.Y)) ⟨by omega,q.2⟩
  generalize num_Root ((s.At.X - t.At.X) * (s.At.X - t.At.X) + (s.At.Y - t.At.Y) * (s.At.Y - t.At.Y))=r at r0 r1 r2 hr
  rw [sqs] at r1 r2
  have neg:(s.At.X + vx - t.At.X) * (s.At.X + vx - t.At.X) + (s.At.Y + vy - t.At.Y) * (s.At.Y + vy - t.At.Y)=(t.At.X - s.At.X - vx) * (t.At.X - s.At.X - vx) + (t.At.Y - s.At.Y - vy) * (t.At.Y - s.At.Y - vy):=by grind
  rw [neg]
  have b1:=near_bd (p.Range * sn p.Azimuth.toNat)
  have b2:=near_bd (p.Range * cs p.Azimuth.toNat)
  rw [← e1] at b1
  rw [← e2] at b2
  have aerr:=hS.aerr
  have hm:=Int.mul_nonneg h1.1 (show (0:Int) ≤ s.AzimuthError by omega)
  have he:651 * (s.RangeError + 2) + p.Range * s.AzimuthError ≤ 651 * (radar_Spot s p).1.Error:=by
    rw [e5]
    generalize p.Range * s.AzimuthError=m at *
    omega
  by_cases hu0:0 ≤ u
  · refine place_near (h:=H.toNat) (g:=H.toNat + u.toNat) (j:=u.toNat) (r:=r) (p:=p.Range) (A:=s.AzimuthError) (R:=s.RangeError) o2 r0 r1 r2 h1.1 hr.1 hr.2 (.inl rfl) (by omega) aerr.2 ?_ ?_ he
    · rw [← sn_round (H.toNat + u.toNat),show (H.toNat + u.toNat) % 4096=p.Azimuth.toNat by omega];exact b1
    · rw [← cs_round (H.toNat + u.toNat),show (H.toNat + u.toNat) % 4096=p.Azimuth.toNat by omega];exact b2
  · have o3:NearD (H.toNat + 4096) (t.At.X - s.At.X) (t.At.Y - s.At.Y):=by unfold NearD at o2 ⊢;rw [sn_up,cs_up];exact o2
    refine place_near (h:=H.toNat + 4096) (g:=(H + 4096 + u).toNat) (j:=(-u).toNat) (r:=r) (p:=p.Range) (A:=s.AzimuthError) (R:=s.RangeError) o3 r0 r1 r2 h1.1 hr.1 hr.2 (.inr (by omega)) (by omega) aerr.2 ?_ ?_ he
    · rw [← sn_round (H + 4096 + u).toNat,show (H + 4096 + u).toNat % 4096=p.Azimuth.toNat by omega];exact b1
    · rw [← cs_round (H + 4096 + u).toNat,show (H + 4096 + u).toNat % 4096=p.Azimuth.toNat by omega];exact b2
theorem within_zero {p q:P} {d:Int} (hp:PIn p) (hq:PIn q) (hd:1 ≤ d ∧ d ≤ 1000000) (h:plane_Within p q d=true):(p.X - q.X) * (p.X - q.X) + (p.Y - q.Y) * (p.Y - q.Y) ≤ d * d:=by
  have s:=sq_bd (x:=d) (n:=1000000) (by omega)
  unfold plane_Within at h
  simp only at h
  rw [(psquare hp hq).1,w64_id (x:=d * d) (by omega)] at h
  cases h1:((decide (d ≥ 0)) && (decide (d ≤ 8000000))) with
  | false=>rw [h1] at h;simp at h
  | true =>
    rw [h1] at h
    simpa using h
theorem plot_range {s:RadarSite} {t:Spot} (h:(radar_Plot s t).2=0):0 ≤ (radar_Plot s t).1.Range ∧ (radar_Plot s t).1.Range ≤ 1000000:=by
  obtain ⟨_,hS,hT,hw,hp⟩:=plot_ok h
  rw [hp]
  simp only
  have q:=psquare hS.at_ hT.at_
  have b:=within_zero hS.at_ hT.at_ hS.reach hw
  have n0:=nn_sq (s.At.X - t.At.X)
  have n1:=nn_sq (s.At.Y - t.At.Y)
  rw [q.1]
  obtain ⟨r0,r1,_⟩:=root_is (n:=(s.At.X - t.At.X) * (s.At.X - t.At.X) + (s.At.Y - t.At.Y) * (s.At.Y - t.At.Y)) ⟨by omega,q.2⟩
  have:=(in_sq (y:=s.Reach) (by have:=hS.reach;omega) (Int.le_trans r1 b)).2
  have:=hS.reach
  omega
theorem plot_azimuth {s:RadarSite} {t:Spot} (h:(radar_Plot s t).2=0):0 ≤ (radar_Plot s t).1.Azimuth ∧ (radar_Plot s t).1.Azimuth ≤ 4095:=by
  obtain ⟨_,hS,hT,hw,hp⟩:=plot_ok h
  rw [hp]
  simp only
  by_cases he:s.At=t.At
  · rw [if_pos he];decide
  rw [if_neg he]
  have a1:=hS.at_
  have a2:=hT.at_
  unfold PIn at a1 a2
  have hX:plane_Sub t.At s.At=⟨t.At.X - s.At.X,t.At.Y - s.At.Y⟩:=by unfold plane_Sub;rw [w64_id (by omega),w64_id (by omega)]
  by_cases h0:t.At.X - s.At.X=0 ∧ t.At.Y - s.At.Y=0
  · rw [hX]
    have z:=of_zero (v:=⟨t.At.X - s.At.X,t.At.Y - s.At.Y⟩) (by unfold OfIn;simp only;omega) h0
    rw [← z.1];decide
  · have:=(of_near (v:=⟨t.At.X - s.At.X,t.At.Y - s.At.Y⟩) (by unfold OfIn;simp only;omega) h0).1
    rw [hX];omega
theorem plot_check {s:RadarSite} {t:Spot} (h:(radar_Plot s t).2=0):radar_CheckPlot (radar_Plot s t).1=0 ∧ (radar_Plot s t).1.Radar=s.ID:=by
  have a:=plot_range h
  have b:=plot_azimuth h
  obtain ⟨_,hS,hT,hw,hp⟩:=plot_ok h
  have e1:(radar_Plot s t).1.Radar=s.ID:=by rw [hp]
  have e2:(radar_Plot s t).1.Time=t.Time:=by rw [hp]
  have e3:(radar_Plot s t).1.Height=t.Height:=by rw [hp]
  have e4:(radar_Plot s t).1.Code=t.Code:=by rw [hp]
  refine ⟨?_,e1⟩
  unfold radar_CheckPlot
  simp only
  rw [e1,e2,e3,e4,rin (show (0:Int) ≤ s.ID ∧ s.ID ≤ 255 from hS.id),rin (show (0:Int) ≤ t.Time ∧ t.Time ≤ 200000 from hT.time),rin (show (0:Int) ≤ (radar_Plot s t).1.Range ∧ (radar_Plot s t).1.Range ≤ 2000000 by omega),rin (show (0:Int) ≤ (radar_Plot s t).1.Azimuth ∧ (radar_Plot s t).1.Azimuth ≤ 4095 by omega),rin (show (0:Int) ≤ t.Height ∧ t.Height ≤ 60000 from hT.height),rin (show (-1:Int) ≤ t.Code ∧ t.Code ≤ 4095 from hT.code)]
  rfl
theorem own_place {s:RadarSite} {t:Spot} (hs:(radar_Plot s t).2=0) (he:s.At=t.At) (hx:(radar_Spot s (radar_Plot s t).1).2=0):sqr (radar_Spot s (radar_Plot s t).1).1.At t.At ≤ (radar_Spot s (radar_Plot s t).1).1.Error * (radar_Spot s (radar_Plot s t).1).1.Error:=by
  obtain ⟨_,hS,hT,hw,hp⟩:=plot_ok hs
  obtain ⟨_,h1,h2,vx,vy,e1,e2,e3,e4,e5,e6,_⟩:=spot_ok hx
  have hr:(radar_Plot s t).1.Range=0:=by
    rw [hp]
    simp only
    rw [(psquare hS.at_ hT.at_).1,he]
    have z:(t.At.X - t.At.X) * (t.At.X - t.At.X) + (t.At.Y - t.At.Y) * (t.At.Y - t.At.Y)=0:=by rw [Int.sub_self,Int.sub_self];rfl
    rw [z];rfl
  rw [hr,Int.zero_mul] at e1 e2
  have v0:nearF 0=0:=rfl
  rw [v0] at e1 e2
  rw [ksquare e4 hT.at_,e3,he,e1,e2]
  simp only [Int.add_zero,Int.sub_self]
  exact nn_sq _
theorem err_fit {e:Int} (h0:0 ≤ e) (h:e ≤ 1000000):w64 (e * e)=e * e:=by
  have:=sq_bd (x:=e) (n:=1000000) (by omega)
  exact w64_id (by omega)
theorem err_nn {s:RadarSite} {p:Plot} (hx:(radar_Spot s p).2=0):0 ≤ (radar_Spot s p).1.Error ∧ (radar_Spot s p).1.Error ≤ 1000000:=by
  obtain ⟨hS,h1,_,_,_,_,_,_,_,e5,e6,_⟩:=spot_ok hx
  have a:=hS.aerr
  have b:=hS.rerr
  have m:=Int.mul_nonneg h1.1 (show (0:Int) ≤ s.AzimuthError by omega)
  exact ⟨by rw [e5];omega,e6⟩
end Go.Sky
end
section
namespace Go.Sky
open Go Go.Eng
structure FlyIn (f:bFlight):Prop where
  x:-60000 ≤ f.at_.X ∧ f.at_.X ≤ 65000
  y:-20000 ≤ f.at_.Y ∧ f.at_.Y ≤ 20000
  vx:-100 ≤ f.speed.X ∧ f.speed.X ≤ 100
  vy:-200 ≤ f.speed.Y ∧ f.speed.Y ≤ 200
  h:5000 ≤ f.height ∧ f.height ≤ 11000
  c:100 ≤ f.code ∧ f.code ≤ 108
theorem flights_L1 (l:List Int):∀ (m k:Nat) (out:List bFlight),k + m ≤ 3 → (∀ f ∈ out,FlyIn f) → (skywaytop_bFlights_L1 l m k out).length=out.length + m ∧ ∀ f ∈ skywaytop_bFlights_L1 l m k out,FlyIn f
  | 0,_,out,_,h=>⟨rfl,h⟩
  | m + 1,k,out,hk,h=>by
    unfold skywaytop_bFlights_L1
    dsimp only
    have e:((4 * k:Nat):Int).tdiv 4=(k:Int):=by rw [Int.tdiv_eq_ediv_of_nonneg (by omega)];omega
    rw [e]
    generalize hr1:skywaytop_bWithin (l[4 * k]?.getD 0) 0 5000=r1
    generalize hr2:skywaytop_bWithin (l[(w64 (((4 * k:Nat):Int) + 1)).toNat]?.getD 0) (-20000) 20000=r2
    generalize hr3:skywaytop_bWithin (l[(w64 (((4 * k:Nat):Int) + 2)).toNat]?.getD 0) (-100) 100=r3
    generalize hr4:skywaytop_bWithin (l[(w64 (((4 * k:Nat):Int) + 3)).toNat]?.getD 0) (-200) 200=r4
    have b1:=within_in hr1 (by decide) (by decide) (by decide)
    have b2:=within_in hr2 (by decide) (by decide) (by decide)
    have b3:=within_in hr3 (by decide) (by decide) (by decide)
    have b4:=within_in hr4 (by decide) (by decide) (by decide)
    rw [w64_id (x:=60000 * w64 (k:Int)) (by rw [w64_id (by omega)];omega),w64_id (x:=3000 * w64 (k:Int)) (by rw [w64_id (by omega)];omega),w64_id (x:=(k:Int)) (by omega),w64_id (x:=-60000 + 60000 * (k:Int)) (by omega),w64_id (x:=-60000 + 60000 * (k:Int) + r1) (by omega),w64_id (x:=5000 + 3000 * (k:Int)) (by omega),w64_id (x:=100 + ((4 * k:Nat):Int)) (by omega)]
    have:=flights_L1 l m (k + 1) (out ++ [(⟨⟨-60000 + 60000 * (k:Int) + r1,r2⟩,⟨r3,r4⟩,5000 + 3000 * (k:Int),100 + ((4 * k:Nat):Int)⟩:bFlight)]) (by omega) (fun f hf=>by
      rcases List.mem_append.1 hf with hf | hf
      · exact h f hf
      · rw [List.mem_singleton.1 hf]
        exact ⟨by dsimp only;omega,b2,b3,b4,by dsimp only;omega,by dsimp only;omega⟩)
    rw [List.length_append,List.length_singleton] at this
    exact ⟨by rw [this.1];omega,this.2⟩
theorem flights_in (l:List Int):(skywaytop_bFlights l).length ≤ 3 ∧ ∀ f ∈ skywaytop_bFlights l,FlyIn f:=by
  have:=flights_L1 l (min (l.length / 4) 3) 0 [] (by omega) (fun _ h=>nomatch h)
  exact ⟨by show (skywaytop_bFlights_L1 l (min (l.length / 4) 3) 0 []).length ≤ 3;rw [this.1];simp only [List.length_nil];omega,this.2⟩
theorem mul_bd {a t A T:Int} (ha:-A ≤ a ∧ a ≤ A) (ht:0 ≤ t ∧ t ≤ T):-(A * T) ≤ a * t ∧ a * t ≤ A * T:=by
  have hA:0 ≤ A:=by omega
  have h1:a * t ≤ A * t:=Int.mul_le_mul_of_nonneg_right ha.2 ht.1
  have h2:-A * t ≤ a * t:=Int.mul_le_mul_of_nonneg_right ha.1 ht.1
  have h3:A * t ≤ A * T:=Int.mul_le_mul_of_nonneg_left ht.2 hA
  rw [Int.neg_mul] at h2
  omega
theorem place_is {f:bFlight} (h:FlyIn f) {t:Int} (ht:0 ≤ t ∧ t ≤ 200):skywaytop_bFlight_place f t=⟨f.at_.X + f.speed.X * t,f.at_.Y + f.speed.Y * t⟩ ∧ (-80000 ≤ f.at_.X + f.speed.X * t ∧ f.at_.X + f.speed.X * t ≤ 85000) ∧ (-60000 ≤ f.at_.Y + f.speed.Y * t ∧ f.at_.Y + f.speed.Y * t ≤ 60000):=by
  have m1:=mul_bd h.vx ht
  have m2:=mul_bd h.vy ht
  have hx:=h.x;have hy:=h.y
  refine ⟨?_,by omega,by omega⟩
  unfold skywaytop_bFlight_place
  rw [w64_id (x:=f.speed.X * t) (by omega),w64_id (x:=f.speed.Y * t) (by omega),w64_id (by omega),w64_id (by omega)]
def spotOf (f:bFlight) (t:Int):Spot:=⟨t,skywaytop_bFlight_place f t,f.height,f.code,0⟩
theorem plot_fine {s:RadarSite} {t:Spot} (h1:radar_Check s=0) (h2:radar_CheckSpot t=0) (h3:plane_Within s.At t.At s.Reach=true):(radar_Plot s t).2=0:=by
  unfold radar_Plot
  simp only
  rw [h1,h2,h3]
  simp only [bne_self_eq_false,cond_false,Bool.not_true]
  cases (P.eqb s.At t.At) <;> rfl
theorem pin_check {p:P} (h:PIn p):plane_Check p=0:=by
  unfold PIn at h
  unfold plane_Check
  rw [decide_eq_false (show ¬ p.X < -1000000 by omega),decide_eq_false (show ¬ p.X > 1000000 by omega),decide_eq_false (show ¬ p.Y < -1000000 by omega),decide_eq_false (show ¬ p.Y > 1000000 by omega)];rfl
theorem spot_check {f:bFlight} (h:FlyIn f) {t:Int} (ht:0 ≤ t ∧ t ≤ 200):radar_CheckSpot (spotOf f t)=0:=by
  have p:=place_is h ht
  have hh:=h.h;have hc:=h.c
  unfold radar_CheckSpot spotOf
  simp only
  rw [p.1,rin (n:=t) (by omega),rin (n:=f.height) (by omega),rin (n:=f.code) (by omega),rin (n:=0) (by decide),pin_check (by unfold PIn;simp only;omega)]
  rfl
theorem within_far {p q:P} (hp:PIn p) (hq:PIn q) {d X Y:Int} (hd:0 ≤ d ∧ d ≤ 1000000) (hx:-X ≤ p.X - q.X ∧ p.X - q.X ≤ X) (hy:-Y ≤ p.Y - q.Y ∧ p.Y - q.Y ≤ Y) (h:X * X + Y * Y ≤ d * d):plane_Within p q d=true:=by
  have a:=sq_bd hx
  have b:=sq_bd hy
  have hdd:0 ≤ d * d ∧ d * d ≤ 1000000000000:=by
    have:=sq_bd (x:=d) (n:=1000000) (by omega);omega
  unfold plane_Within
  simp only
  rw [decide_eq_true (show d ≥ 0 by omega),decide_eq_true (show d ≤ 8000000 by omega),Bool.and_true,cond_true,(psquare hp hq).1,w64_id (by omega)]
  exact decide_eq_true (by omega)
def site1:RadarSite:=⟨1,⟨-20000,0⟩,400000,50,2⟩
theorem seen1 {f:bFlight} (h:FlyIn f) {t:Int} (ht:0 ≤ t ∧ t ≤ 200):(radar_Plot site1 (spotOf f t)).2=0:=by
  have p:=place_is h ht
  refine plot_fine (by kernel_rfl) (spot_check h ht) ?_
  unfold spotOf
  simp only
  rw [p.1]
  exact within_far (X:=110000) (Y:=60000) (by unfold PIn site1;decide) (by unfold PIn;simp only;omega) (by decide) (by unfold site1;simp only;omega) (by unfold site1;simp only;omega) (by decide)
theorem spot_fine {s:RadarSite} {p:Plot} (h1:radar_Check s=0) (h2:radar_CheckPlot p=0) (h3:p.Radar=s.ID) (hr:0 ≤ p.Range ∧ p.Range ≤ 400000) (ha:0 ≤ p.Azimuth ∧ p.Azimuth ≤ 4095) (hx:-100000 ≤ s.At.X ∧ s.At.X ≤ 100000) (hy:-100000 ≤ s.At.Y ∧ s.At.Y ≤ 100000):(radar_Spot s p).2=0:=by
  have hs:=check_in h1
  have hz:(p.Azimuth.toNat:Int)=p.Azimuth:=Int.toNat_of_nonneg ha.1
  have hv:=vec_is (g:=p.Azimuth.toNat) (p:=p.Range) (by omega)
  rw [hz] at hv
  have a:=mul_bd (A:=16384) (sn_in p.Azimuth.toNat) hr
  have b:=mul_bd (A:=16384) (cs_in p.Azimuth.toNat) hr
  rw [Int.mul_comm _ p.Range] at a b
  have c:=near_bd (p.Range * sn p.Azimuth.toNat)
  have d:=near_bd (p.Range * cs p.Azimuth.toNat)
  have e:=err_is hs (far:=p.Range) (by omega) h1
  have re:=hs.rerr;have ae:=hs.aerr
  have m:p.Range * s.AzimuthError ≤ 400000 * 100:=Int.mul_le_mul hr.2 ae.2 (by omega) (by decide)
  unfold radar_Spot
  simp only
  rw [h1,h2,h3,hv]
  simp only [bne_self_eq_false,cond_false]
  have hadd:plane_Add s.At ⟨nearF (p.Range * sn p.Azimuth.toNat),nearF (p.Range * cs p.Azimuth.toNat)⟩=⟨s.At.X + nearF (p.Range * sn p.Azimuth.toNat),s.At.Y + nearF (p.Range * cs p.Azimuth.toNat)⟩:=by
    unfold plane_Add
    simp only
    rw [w64_id (by omega),w64_id (by omega)]
  rw [hadd,pin_check (by unfold PIn;simp only;omega),e.1,decide_eq_false (by omega)]
  rfl
theorem spot_holds {s:RadarSite} {t:Spot} (hs:(radar_Plot s t).2=0) (hx:(radar_Spot s (radar_Plot s t).1).2=0):sqr (radar_Spot s (radar_Plot s t).1).1.At t.At ≤ (radar_Spot s (radar_Plot s t).1).1.Error * (radar_Spot s (radar_Plot s t).1).1.Error:=by
  by_cases he:s.At=t.At
  · exact own_place hs he hx
  · have hc:=plot_ok hs
    have ae:=hc.2.1.aerr
    have re:=hc.2.1.rerr
    have az:=plot_azimuth hs
    exact plot_place (u:=0) hs he (by omega) (by omega) (by omega) hx
end Go.Sky
end
section
namespace Go.Sky
open Go Go.Eng Go.Glue
theorem bplot_of {p:Plot} (h:radar_CheckPlot p=0):(0 ≤ p.Time ∧ p.Time ≤ 200000) ∧ (0 ≤ p.Range ∧ p.Range ≤ 2000000) ∧ 0 ≤ p.Azimuth ∧ p.Azimuth ≤ 4095:=by
  unfold radar_CheckPlot at h
  cases h1:radar_out p.Radar 0 255 <;> cases h2:radar_out p.Time 0 200000 <;> cases h3:radar_out p.Range 0 2000000 <;> cases h4:radar_out p.Azimuth 0 4095 <;> simp only [h1,h2,h3,h4,cond_true,cond_false] at h <;> try (exact absurd h (by decide))
  unfold radar_out at h2 h3 h4
  simp only [Bool.or_eq_false_iff,decide_eq_false_iff_not] at h2 h3 h4
  omega
theorem bcheck_of {o:BiasOffset} (h:bias_Check o=0):(-10000 ≤ o.Range ∧ o.Range ≤ 10000) ∧ (-2047 ≤ o.Azimuth ∧ o.Azimuth ≤ 2048) ∧ -1000 ≤ o.Time ∧ o.Time ≤ 1000:=by
  unfold bias_Check at h
  cases hc:((((((decide (o.Range < (-10000))) || (decide (o.Range > 10000))) || (decide (o.Azimuth < (-2047)))) || (decide (o.Azimuth > 2048))) || (decide (o.Time < (-1000)))) || (decide (o.Time > 1000)))
  · simp only [Bool.or_eq_false_iff,decide_eq_false_iff_not] at hc
    omega
  · rw [hc] at h;exact absurd h (by decide)
theorem apply_of {p:Plot} {o:BiasOffset} (h:(bias_Apply p o).2=0):bias_Check o=0 ∧ radar_CheckPlot p=0 ∧ radar_CheckPlot (bias_Apply p o).1=0 ∧
    w64 ((bias_Apply p o).1.Range - p.Range)=o.Range ∧ angle_Diff p.Azimuth (bias_Apply p o).1.Azimuth=o.Azimuth ∧ w64 ((bias_Apply p o).1.Time - p.Time)=o.Time:=by
  unfold bias_Apply bias_moved at *
  simp only at *
  cases h1:(bias_Check o != 0)
  · rw [h1] at h
    rw [cond_false] at h ⊢
    have c0:bias_Check o=0:=by simpa using h1
    cases h2:(radar_CheckPlot p != 0)
    · rw [h2] at h
      rw [cond_false] at h ⊢
      have p0:radar_CheckPlot p=0:=by simpa using h2
      have co:=bcheck_of c0
      have cp:=bplot_of p0
      have e1:w64 (1 * o.Azimuth)=o.Azimuth:=by rw [w64_id (by omega)];omega
      have e2:w64 (1 * o.Time)=o.Time:=by rw [w64_id (by omega)];omega
      have e3:w64 (1 * o.Range)=o.Range:=by rw [w64_id (by omega)];omega
      rw [e1,e2,e3,w64_id (x:=p.Azimuth + o.Azimuth) (by omega),w64_id (x:=p.Time + o.Time) (by omega),w64_id (x:=p.Range + o.Range) (by omega),norm_eq] at h ⊢
      generalize hq:(⟨p.Radar,p.Time + o.Time,p.Range + o.Range,(p.Azimuth + o.Azimuth) % 4096,p.Height,p.Code⟩:Plot)=q at h ⊢
      cases h3:(radar_CheckPlot q != 0)
      · rw [cond_false]
        have q0:radar_CheckPlot q=0:=by simpa using h3
        refine ⟨c0,p0,q0,?_,?_,?_⟩
        · subst hq;simp only;rw [w64_id (by omega)];omega
        · subst hq
          simp only
          unfold angle_Diff
          rw [w64_id (x:=(p.Azimuth + o.Azimuth) % 4096 - p.Azimuth) (by omega),norm_eq]
          simp only
          rcases Int.lt_or_le o.Azimuth 0 with hn | hn
          · rw [show decide (((p.Azimuth + o.Azimuth) % 4096 - p.Azimuth) % 4096 > 2048)=true from decide_eq_true (by omega),cond_true,w64_id (by omega)];omega
          · rw [show decide (((p.Azimuth + o.Azimuth) % 4096 - p.Azimuth) % 4096 > 2048)=false from decide_eq_false (by omega),cond_false];omega
        · subst hq;simp only;rw [w64_id (by omega)];omega
      · rw [h3,cond_true] at h;exact absurd h (by decide)
    · rw [h2,cond_true] at h;exact absurd h (by simpa using h2)
  · rw [h1,cond_true] at h;exact absurd h (by simpa using h1)
def fits (o:BiasOffset):List Plot → List Plot → Nat
  | x :: xs,y :: ys=>(if (bias_Apply x o).2=0 ∧ Plot.eqb (bias_Apply x o).1 y=true then 1 else 0) + fits o xs ys
  | _,_=>0
theorem bq_self (p:Plot):Plot.eqb p p=true:=by rw [Plot.eqb_eq,decide_eq_true rfl]
theorem bq_of {p q:Plot} (h:Plot.eqb p q=true):p=q:=by rw [Plot.eqb_eq] at h;exact of_decide_eq_true h
theorem fits_count (o:BiasOffset) (f:Plot → Plot → Int) (v:Int) (hf:∀ x,(bias_Apply x o).2=0 → f x (bias_Apply x o).1=v):∀ (xs ys:List Plot),fits o xs ys ≤ (List.zipWith f xs ys).count v
  | [],_=>by simp [fits]
  | _ :: _,[]=>by simp [fits]
  | x :: xs,y :: ys=>by
    have ih:=fits_count o f v hf xs ys
    rw [List.zipWith_cons_cons,List.count_cons]
    unfold fits
    split
    · rename_i h
      have:=bq_of h.2
      subst this
      rw [hf x h.1]
      simp;omega
    · omega
theorem estimate_L3 (seen:List Plot):∀ (xs:List Plot) (k:Nat) (ys:List Plot) (a b c:List Int),seen.drop k=ys → ys.length=xs.length → bias_Estimate_L3 seen xs k a b c =
    (a ++ List.zipWith (fun x y=>w64 (y.Range - x.Range)) xs ys,b ++ List.zipWith (fun x y=>angle_Diff x.Azimuth y.Azimuth) xs ys,c ++ List.zipWith (fun x y=>w64 (y.Time - x.Time)) xs ys)
  | [],_,ys,a,b,c,_,_=>by unfold bias_Estimate_L3;simp
  | x :: xs,k,[],_,_,_,_,h=>by simp at h
  | x :: xs,k,y :: ys,a,b,c,hd,hl=>by
    have d1:seen.drop (k + 1)=ys:=by rw [← List.drop_drop,hd];rfl
    have d2:seen[k]? = some y:=by
      have:(seen.drop k)[0]? = some y:=by rw [hd];rfl
      rwa [List.getElem?_drop,Nat.add_zero] at this
    unfold bias_Estimate_L3
    simp only
    rw [d2,Option.getD_some,estimate_L3 seen xs (k + 1) ys _ _ _ d1 (by simpa using hl)]
    simp only [List.zipWith_cons_cons,List.append_assoc,List.singleton_append]
theorem estimate_L2:∀ (xs:List Plot) (k:Nat),(∀ p ∈ xs,radar_CheckPlot p=0) → bias_Estimate_L2 xs k=.inl ()
  | [],_,_=>rfl
  | x :: xs,k,h=>by
    unfold bias_Estimate_L2
    simp only
    rw [h x (List.mem_cons_self ..),bne_self_eq_false,cond_false]
    exact estimate_L2 xs (k + 1) fun p hp=>h p (List.mem_cons_of_mem _ hp)
theorem estimate_most {o:BiasOffset} {xs ys:List Plot} (hl:ys.length=xs.length) (h0:0 < xs.length) (h1:xs.length ≤ 256) (hx:∀ p ∈ xs,radar_CheckPlot p=0) (hy:∀ p ∈ ys,radar_CheckPlot p=0)
    (ho:bias_Check o=0) (hf:xs.length < 2 * fits o xs ys):bias_Estimate xs ys=(o,0):=by
  have zl:∀ f:Plot → Plot → Int,(List.zipWith f xs ys).length=xs.length:=fun f=>by rw [List.length_zipWith,hl,Nat.min_self]
  unfold bias_Estimate
  rw [show (decide ((xs.length:Int) > 256) || decide ((ys.length:Int) > 256))=false by rw [decide_eq_false (by omega),decide_eq_false (by omega)];rfl,cond_false]
  have e1:bias_Estimate_L1 xs ys ((2:Int).toNat) 0=.inl ():=by
    show bias_Estimate_L1 xs ys 2 0=_
    unfold bias_Estimate_L1
    rw [show decide (((0:Nat):Int)=0)=true from rfl,cond_true,estimate_L2 xs 0 hx]
    simp only [Sum.elim_inl]
    unfold bias_Estimate_L1
    rw [show decide (((0 + 1:Nat):Int)=0)=false from rfl,cond_false,estimate_L2 ys 0 hy]
    rfl
  rw [e1]
  simp only [Sum.elim_inl]
  rw [show ((xs.length:Int) != (ys.length:Int))=false by rw [hl];simp,cond_false,show ((ys.length:Int) == 0)=false by simp;intro h;rw [h] at hl;simp at hl;omega,cond_false]
  rw [estimate_L3 ys xs 0 ys [] [] [] List.drop_zero hl]
  unfold bindv
  simp only [List.nil_append]
  have m:=fun (f:Plot → Plot → Int) (v:Int) (hv:∀ x,(bias_Apply x o).2=0 → f x (bias_Apply x o).1=v)=>median_most (List.zipWith f xs ys) v (by have:=fits_count o f v hv xs ys;rw [zl f];omega)
  rw [m _ o.Range (fun x h=>(apply_of h).2.2.2.1),m _ o.Azimuth (fun x h=>(apply_of h).2.2.2.2.1),m _ o.Time (fun x h=>(apply_of h).2.2.2.2.2)]
  rw [ho,bne_self_eq_false,cond_false]
theorem apply_eq {p:Plot} {o:BiasOffset} (h:(bias_Apply p o).2=0):(bias_Apply p o).1=⟨p.Radar,p.Time + o.Time,p.Range + o.Range,(p.Azimuth + o.Azimuth) % 4096,p.Height,p.Code⟩:=by
  have g:=apply_of h
  have co:=bcheck_of g.1
  have cp:=bplot_of g.2.1
  unfold bias_Apply bias_moved at h ⊢
  simp only at h ⊢
  rw [g.1,g.2.1,show ((0:Int) != 0)=false from rfl,cond_false,cond_false] at h ⊢
  have e1:w64 (1 * o.Azimuth)=o.Azimuth:=by rw [w64_id (by omega)];omega
  have e2:w64 (1 * o.Time)=o.Time:=by rw [w64_id (by omega)];omega
  have e3:w64 (1 * o.Range)=o.Range:=by rw [w64_id (by omega)];omega
  rw [e1,e2,e3,w64_id (x:=p.Azimuth + o.Azimuth) (by omega),w64_id (x:=p.Time + o.Time) (by omega),w64_id (x:=p.Range + o.Range) (by omega),norm_eq] at h ⊢
  generalize (⟨p.Radar,p.Time + o.Time,p.Range + o.Range,(p.Azimuth + o.Azimuth) % 4096,p.Height,p.Code⟩:Plot)=q at h ⊢
  cases h3:(radar_CheckPlot q != 0)
  · rfl
  · rw [h3,cond_true] at h;exact absurd h (by decide)
theorem correct_of {p:Plot} {o:BiasOffset} (h:(bias_Apply p o).2=0):bias_Correct (bias_Apply p o).1 o=(p,0):=by
  have g:=apply_of h
  have co:=bcheck_of g.1
  have cp:=bplot_of g.2.1
  have ca:=g.2.2.1
  rw [apply_eq h] at ca ⊢
  unfold bias_Correct bias_moved
  simp only
  rw [g.1,ca,show ((0:Int) != 0)=false from rfl,cond_false,cond_false]
  have e1:w64 (p.Time + o.Time + w64 ((-1) * o.Time))=p.Time:=by rw [w64_id (x:=-1 * o.Time) (by omega),w64_id (by omega)];omega
  have e2:w64 (p.Range + o.Range + w64 ((-1) * o.Range))=p.Range:=by rw [w64_id (x:=-1 * o.Range) (by omega),w64_id (by omega)];omega
  have e3:angle_Norm (w64 ((p.Azimuth + o.Azimuth) % 4096 + w64 ((-1) * o.Azimuth)))=p.Azimuth:=by rw [w64_id (x:=-1 * o.Azimuth) (by omega),w64_id (by omega),norm_eq];omega
  rw [e1,e2,e3,show (⟨p.Radar,p.Time,p.Range,p.Azimuth,p.Height,p.Code⟩:Plot)=p from rfl,g.2.1]
  rfl
theorem fits_map (o:BiasOffset):∀ (xs:List Plot),(∀ p ∈ xs,(bias_Apply p o).2=0) → fits o xs (xs.map fun p=>(bias_Apply p o).1)=xs.length
  | [],_=>rfl
  | x :: xs,h=>by
    rw [List.map_cons]
    unfold fits
    rw [if_pos ⟨h x (List.mem_cons_self ..),bq_self _⟩,fits_map o xs (fun p hp=>h p (List.mem_cons_of_mem _ hp)),List.length_cons];omega
theorem estimate_all {o:BiasOffset} {xs:List Plot} (h0:0 < xs.length) (h1:xs.length ≤ 256) (h:∀ p ∈ xs,(bias_Apply p o).2=0):bias_Estimate xs (xs.map fun p=>(bias_Apply p o).1)=(o,0):=by
  obtain ⟨x,hx⟩:=List.exists_mem_of_length_pos h0
  refine estimate_most (by rw [List.length_map]) h0 h1 (fun p hp=>(apply_of (h p hp)).2.1) (fun q hq=>?_) (apply_of (h x hx)).1 (by rw [fits_map o xs h];omega)
  obtain ⟨p,hp,rfl⟩:=List.mem_map.1 hq
  exact (apply_of (h p hp)).2.2.1
end Go.Sky
end
