/- Lemmas toward the given statement (part 9 of 21): Ve Geo Scn. Each theorem states its own conditions; nothing is assumed beyond them. -/
import Derived.Test.YtjggkpkehdnhiaaGreatDoorBi08
import Derived.Test.YtjggkpkehdnhiaaGreatDoorBi03
import Derived.Test.YtjggkpkehdnhiaaGreatDoorBi02
import Derived.Test.YtjggkpkehdnhiaaGreatDoorBi05
import Derived.Test.YtjggkpkehdnhiaaGreatDoorBi06
section
namespace Go.Sky
open Go Go.Eng Go.Proofs
set_option maxRecDepth 100000 in
theorem assign_Total_w (A_costs:Option Addr) (c_costs:Nat) (costs:List (List Int)) (o_costs:List (Sl Int)) (miss:Int) (w:World) (h_costs:Rd w 1 A_costs (o_costs.map Sl.c)) (hc_costs:costs.length ≤ c_costs) (hd_costs:∀ s ∈ o_costs,s.rd w 1 ic) (he_costs:costs=o_costs.map Sl.l):Calls Tryz.prog 108 #[.slice A_costs costs.length c_costs,.int .i64 miss] w (Ret w (.tuple #[.int .i64 ((assign_Total costs miss).1),.int .i64 ((assign_Total costs miss).2)])):=by
  have s_costs:=h_costs.short;rw [← sl_len he_costs] at s_costs
  refine calls_intro (vs:=[.slice A_costs costs.length c_costs,.i miss]) (w:=w) Tryz.func108 rfl Tryz.ntmps108 rfl (TC.sr (TL.r 2 [] [(4,.i 0),(5,.i 0)] {} (TL.ns (TC.sr (TL.r 2 [] [(7,.slice A_costs costs.length c_costs),(8,.i miss)] {} (TL.c 9 (assign_Check costs miss) (fun r1=>.i r1) (fun w hM=>assign_Check_w A_costs c_costs costs o_costs miss w (h_costs.sat hM) hc_costs (fun s hs=>(hd_costs s hs).sat hM) he_costs) {} (fun r1 hr1=>TL.r 4 [] [(6,.i r1)] {} (TL.nr (TL.r 2 [] [(11,.b (r1 != 0))] {} (TL.next rfl (TC.cond (r1 != 0) rfl Kr (fun h1=>?_) (fun h1=>?_))))))))))))
  · exact TC.sr (TL.r 3 [] [(4,.i 0),(5,.i r1)] {} (TL.next rfl (TC.ret (TE.rt (TE.ret [] (.tuple #[.i 0,.i r1]) {} (by unfold assign_Total;refine eS (a:=(0,r1)) (fun (z:Int × Int)=>(.tuple #[.i z.1,.i z.2]:Value)) ?_;subst hr1;exact cond_t h1 (rfl)))))))
  · have q1_0:=(bne_f h1)
    refine TC.snr (TL.r 3 [] [(13,.slice A_costs costs.length c_costs),(14,.i miss),(15,.slice A_costs costs.length c_costs)] {} (TL.c 16 (assign_width costs) (fun r2=>.i r2) (fun w hM=>assign_width_w A_costs c_costs costs o_costs w (h_costs.sat hM) hc_costs (fun s hs=>(hd_costs s hs).sat hM) he_costs) {} (fun r2 hr2=>TL.rw 16 (.i r2) (.i ((r2.toNat:Nat):Int)) Kr (int_eq (Int.toNat_of_nonneg (by (try have kg_:=know_ok hr1 h1);(try have kc_:=kg_.c1);(try have kw_:=know_w hr2);exact sd)).symm) (TL.on (Γ:=AN) (sV (Instr.makeSlice 137 (.i ((r2.toNat:Nat):Int)) (.i ((r2.toNat:Nat):Int)))) 17 (fun g=>.slice g.1 (List.replicate r2.toNat false).length g.2) (fun g=>Ow g.1 g.2 4 1 ((List.replicate r2.toNat false).map bc)) (make_at (P:=Tryz.prog) (c:=bc) (t:=137) (e:=4) (sz:=1) (bytes:=1) false .i64 .i64 r2.toNat Kr Kr (by (try have kg_:=know_ok hr1 h1);(try have kc_:=kg_.c1);(try have kw_:=know_w hr2);exact sd) (by (try have kg_:=know_ok hr1 h1);(try have kc_:=kg_.c1);(try have kw_:=know_w hr2);exact sd)) {} ?_))))
    rintro ⟨A,c⟩
    exact TL.c 18 (assign_least costs miss 0 (List.replicate r2.toNat false)) (fun r3=>.i r3) (fun w hM=>assign_least_w A_costs c_costs costs o_costs miss 0 A c (List.replicate r2.toNat false) w (h_costs.sat hM) hc_costs (fun s hs=>(hd_costs s hs).sat hM) he_costs (hM.rd_at 0 rfl) (hM.le_at 0 rfl) (know_ok hr1 h1) (by omega) (by have kw_:=know_w hr2;rw [List.length_replicate];omega)) {} (fun r3 hr3=>TL.r 8 [] [(4,.i r3),(5,.i 0)] {} (TL.next rfl (TC.ret (TE.ret [] (.tuple #[.i r3,.i 0]) {} (by unfold assign_Total;refine eS (a:=(r3,0)) (fun (z:Int × Int)=>(.tuple #[.i z.1,.i z.2]:Value)) ?_;subst hr1 hr2 hr3;exact cond_f h1 (rfl))))))
set_option maxHeartbeats 4000000 in
set_option maxRecDepth 100000 in
theorem assign_Best_w (A_costs:Option Addr) (c_costs:Nat) (costs:List (List Int)) (o_costs:List (Sl Int)) (miss:Int) (w:World) (h_costs:Rd w 1 A_costs (o_costs.map Sl.c)) (hc_costs:costs.length ≤ c_costs) (hd_costs:∀ s ∈ o_costs,s.rd w 1 ic) (he_costs:costs=o_costs.map Sl.l):Calls Tryz.prog 52 #[.slice A_costs costs.length c_costs,.int .i64 miss] w (RetM (Γ:=(Option Addr × Nat)) (cx w) (fun g=>.tuple #[.slice g.1 ((assign_Best costs miss).1.length) g.2,.int .i64 ((assign_Best costs miss).2.1),.int .i64 ((assign_Best costs miss).2.2)]) (fun g=>[.inr (Own g.1 g.2 3 1 (((assign_Best costs miss).1).map ic))])):=by
  have s_costs:=h_costs.short;rw [← sl_len he_costs] at s_costs
  refine calls_intro (vs:=[.slice A_costs costs.length c_costs,.i miss]) (w:=w) Tryz.func52 rfl Tryz.ntmps52 rfl (TC.sr (TL.r 3 [] [(4,.slice none 0 0),(5,.i 0),(6,.i 0)] {} (TL.nr (TL.r 2 [] [(18,.slice A_costs costs.length c_costs),(19,.i miss)] {} (TL.c 20 (assign_Total costs miss) (fun r1=>.tuple #[.i r1.1,.i r1.2]) (fun w hM=>assign_Total_w A_costs c_costs costs o_costs miss w (h_costs.sat hM) hc_costs (fun s hs=>(hd_costs s hs).sat hM) he_costs) {} (fun r1 hr1=>TL.r 8 [] [(7,.i r1.1),(8,.i r1.2)] {} (TL.ns (TC.sr (TL.r 2 [] [(24,.b (r1.2 != 0))] {} (TL.next rfl (TC.cond (r1.2 != 0) rfl Kr (fun h1=>?_) (fun h1=>?_))))))))))))
  · refine TC.sr (TL.r 4 [] [(4,.slice none 0 0),(5,.i 0),(6,.i r1.2)] {} (TL.next rfl (TC.ret (TE.rt ?_))))
    have e:assign_Best costs miss=([],0,r1.2):=by subst hr1;unfold assign_Best;exact cond_t h1 (rfl)
    refine TE.conv [Ow none 0 3 1 (([]:List Int).map ic)] (fun _ hM=>hM.emptyrow none 3 1) ?_
    rw [e]
    exact TE.retM (.inl rfl) (none,0) [] (.tuple #[.slice none 0 0,.i 0,.i r1.2]) {} rfl (fun _ hM=>hM.sub (sb 1))
  · have q1_0:=(bne_f h1)
    refine TC.snr (TL.r 1 [] [(26,.slice A_costs costs.length c_costs)] {} (TL.c 27 (assign_width costs) (fun r2=>.i r2) (fun w hM=>assign_width_w A_costs c_costs costs o_costs w (h_costs.sat hM) hc_costs (fun s hs=>(hd_costs s hs).sat hM) he_costs) {} (fun r2 hr2=>TL.rw 27 (.i r2) (.i ((r2.toNat:Nat):Int)) Kr (int_eq (Int.toNat_of_nonneg (by (try have kg_:=know_t hr1 h1);(try have kc_:=kg_.c1);(try have kn_:=kg_.n1);(try have kw_:=know_w hr2);(try have kx_:=know_at kg_ hx);exact sd)).symm) (TL.on (Γ:=AN) (sV (Instr.makeSlice 137 (.i ((r2.toNat:Nat):Int)) (.i ((r2.toNat:Nat):Int)))) 28 (fun g=>.slice g.1 (List.replicate r2.toNat false).length g.2) (fun g=>Ow g.1 g.2 4 1 ((List.replicate r2.toNat false).map bc)) (make_at (P:=Tryz.prog) (c:=bc) (t:=137) (e:=4) (sz:=1) (bytes:=1) false .i64 .i64 r2.toNat Kr Kr (by (try have kg_:=know_t hr1 h1);(try have kc_:=kg_.c1);(try have kn_:=kg_.n1);(try have kw_:=know_w hr2);(try have kx_:=know_at kg_ hx);exact sd) (by (try have kg_:=know_t hr1 h1);(try have kc_:=kg_.c1);(try have kn_:=kg_.n1);(try have kw_:=know_w hr2);(try have kx_:=know_at kg_ hx);exact sd)) {} ?_))))
    rintro ⟨A,c⟩
    refine TL.r 4 [] [(9,.slice A ((List.replicate r2.toNat false).length) c)] {} (TL.nr (TL.r 2 [] [(10,.i r1.1)] {} (TL.nr (TL.r 1 [] [(11,.slice none 0 0)] {} (TL.ns (TC.sr (TL.r 3 [] [(30,.slice A_costs costs.length c_costs),(31,.i (costs.length:Int)),(32,.i 0)] {} (TL.next rfl (TC.conv [Ow none 0 3 1 (([]:List Int).map ic),Ow A c 4 1 ((List.replicate r2.toNat false).map bc)] (fun _ hM=>hM.emptyrow none 3 1) ?_)))))))))
    obtain ⟨R4,hR⟩:∃ R,R=assign_Best_L1 costs miss costs 0 r1.1 ([]:List Int) (List.replicate r2.toNat false):=⟨_,rfl⟩
    refine TC.cut (S:=(List Int) × (List Bool) × (Option Addr) × Nat) (fun (out_2,taken_2,A_out_2,c_out_2)=>[(7,.i r1.1),(11,.slice A_out_2 out_2.length c_out_2)]) (fun (out_2,taken_2,A_out_2,c_out_2)=>[Ow A_out_2 c_out_2 3 1 (out_2.map ic)]) (fun (out_2,taken_2,A_out_2,c_out_2)=>R4=(out_2,taken_2) ∧ out_2.length ≤ costs.length ∧ taken_2.length=r2.toNat) ?_ ?_
    · refine TC.block (TC.lw (X:=Nat × Int × (List Int) × (List Bool) × (Option Addr) × Nat) (fun (k,left,out,taken,A_out,c_out)=>[(0,.slice A_costs costs.length c_costs),(1,.i miss),(7,.i r1.1),(9,.slice A taken.length c),(10,.i left),(11,.slice A_out out.length c_out),(30,.slice A_costs costs.length c_costs),(31,.i (costs.length:Int)),(32,.i (k:Int))]) (fun (k,left,out,taken,A_out,c_out)=>[Ow A_out c_out 3 1 (out.map ic),Ow A c 4 1 (taken.map bc)]) (fun (k,left,out,taken,A_out,c_out)=>costs.length - k) (fun (k,left,out,taken,A_out,c_out)=>k ≤ costs.length ∧ R4=assign_Best_L1 costs miss (costs.drop k) k left out taken ∧ out.length ≤ k ∧ taken.length=r2.toNat) ?_ (0,r1.1,([]:List Int),(List.replicate r2.toNat false),none,0) ⟨Nat.zero_le _,hR,sz,sz⟩ Kr (sb 3))
      rintro ⟨k,left,out,taken,A_out,c_out⟩ ⟨hk,hI,hl_out,hl_taken⟩
      refine TC.sr (TL.r 1 [] [(33,.b (decide ((k:Int) < (costs.length:Int))))] {} (TL.ns (TC.cond (decide ((k:Int) < (costs.length:Int))) rfl Kr (fun h2=>?_) (fun h2=>?_))))
      · have hlt:=ltN h2
        obtain ⟨x,hx⟩:=elN hlt
        have hd:=drop_at hx
        refine TC.sn (TC.seq (TC.block (TC.sr (TL.r 1 [] [(34,.i (k:Int))] {} (TL.v (sV (Instr.indexAt 132 (.slice A_costs costs.length c_costs) (.i (k:Int)))) 35 (.pointer (some (Ix A_costs (k * 1)))) (fun w hM=>run_index (h_costs.sat hM) (sl_len he_costs) Kr (by (try have kg_:=know_t hr1 h1);(try have kc_:=kg_.c1);(try have kn_:=kg_.n1);(try have kw_:=know_w hr2);(try have kx_:=know_at kg_ hx);exact sd) (by (try have kg_:=know_t hr1 h1);(try have kc_:=kg_.c1);(try have kn_:=kg_.n1);(try have kw_:=know_w hr2);(try have kx_:=know_at kg_ hx);exact sd)) {} ?_)))))
        have s_s1:=(el_rd (sl_all hd_costs k) (sl_at he_costs hx)).short;rw [List.length_map] at s_s1
        refine TL.v (sV (Instr.loadAt 22 (.pointer (some (Ix A_costs (k * 1)))))) 36 (.slice ((o_costs[k]?.getD Sl.zero).A) x.length ((o_costs[k]?.getD Sl.zero).cap)) (fun w hM=>(by have h:=run_load_one (P:=Tryz.prog) (T:=22) (off:=0) (i:=k) (.slice (o_costs[k]?.getD Sl.zero).A (o_costs[k]?.getD Sl.zero).l.length (o_costs[k]?.getD Sl.zero).cap) (h_costs.sat hM) (map_at (getD_at _ _ Sl.zero (sl_lt he_costs (List.getElem?_eq_some_iff.1 hx).1))) Kr Kr;rw [(sl_at he_costs hx)] at h;exact h)) {} ?_
        refine TL.r 5 [] [(12,.i (k:Int)),(13,.slice ((o_costs[k]?.getD Sl.zero).A) x.length ((o_costs[k]?.getD Sl.zero).cap))] {} (TL.nr (TL.r 1 [] [(14,.i (-1))] {} (TL.ns (TC.sr (TL.r 6 [] [(37,.i miss),(38,.slice A_costs costs.length c_costs),(39,.i miss),(41,.i (w64 ((k:Int) + 1))),(42,.slice A taken.length c)] {} (TL.c 43 (assign_least costs miss (w64 ((k:Int) + 1)) taken) (fun r3=>.i r3) (fun w hM=>assign_least_w A_costs c_costs costs o_costs miss (w64 ((k:Int) + 1)) A c taken w (h_costs.sat hM) hc_costs (fun s hs=>(hd_costs s hs).sat hM) he_costs (hM.rd_at 1 rfl) (hM.le_at 1 rfl) (know_t hr1 h1) (by (try have kg_:=know_t hr1 h1);(try have kc_:=kg_.c1);(try have kn_:=kg_.n1);(try have kw_:=know_w hr2);(try have kx_:=know_at kg_ hx);exact sg) (by (try have kg_:=know_t hr1 h1);(try have kc_:=kg_.c1);(try have kn_:=kg_.n1);(try have kw_:=know_w hr2);(try have kx_:=know_at kg_ hx);exact sg)) {} (fun r3 hr3=>TL.r 10 [] [(46,.b ((w64 (miss + r3)) == left))] {} (TL.next rfl (TC.cond ((w64 (miss + r3)) == left) rfl Kr (fun h3=>?_) (fun h3=>?_))))))))))
        · have q3_0:=(beq_t h3)
          refine TC.region (TL.r 4 [] [(10,.i (w64 (left - miss)))] {} (TL.next rfl (TC.region (TL.r 2 [] [(86,.slice A_out out.length c_out),(87,.i (-1))] {} (TL.nw 88 (fun b1=>.slice (Pa b1) 1 1) (fun b1=>Bk b1 #[.i (-1)] 3) (fun b1=>{}) (fun b1=>TL.os (Γ:=AN) (sV (Builtin.append_ #[22,22] 22 #[.slice A_out out.length c_out,.slice (Pa b1) 1 1])) 89 (fun g=>.slice g.1 (out ++ ([(-1)])).length g.2) 1 (fun g=>Ow g.1 g.2 3 1 ((out ++ ([(-1)])).map ic)) (app_at (bytes:=8) 22 1 ([(-1)]) Kr rfl rfl ic_one rfl (fun w hM=>(Rd.lit hM 0 _ rfl Kr Kr Kr)) rfl (by (try have kg_:=know_t hr1 h1);(try have kc_:=kg_.c1);(try have kn_:=kg_.n1);(try have kw_:=know_w hr2);(try have kx_:=know_at kg_ hx);exact sa)) {} ?_))))))
          rintro ⟨A_2,c_2⟩
          exact TL.r 5 [] [(11,.slice A_2 ((out ++ ([(-1)])).length) c_2)] {} (TL.done rfl (TE.nb (TE.next (TC.region (TL.r 2 [] [(32,.i (w64 ((k:Int) + 1)))] {} (TL.done rfl (TE.rw 32 (.i (w64 ((k:Int) + 1))) (.i ((k + 1:Nat):Int)) Kr (w64_cast k (by (try have kg_:=know_t hr1 h1);(try have kc_:=kg_.c1);(try have kn_:=kg_.n1);(try have kw_:=know_w hr2);(try have kx_:=know_at kg_ hx);omega)) (TE.again (x:=(k,left,out,taken,A_out,c_out)) (k + 1,w64 (left - miss),(out ++ ([(-1)])),taken,A_2,c_2) ⟨by omega,hI.trans (by subst hr1 hr2 hr3;rw [hd];exact cond_t h3 (rfl)),(by (try have kg_:=know_t hr1 h1);(try have kc_:=kg_.c1);(try have kn_:=kg_.n1);(try have kw_:=know_w hr2);(try have kx_:=know_at kg_ hx);exact sl),(by (try have kg_:=know_t hr1 h1);(try have kc_:=kg_.c1);(try have kn_:=kg_.n1);(try have kw_:=know_w hr2);(try have kx_:=know_at kg_ hx);exact sl)⟩ (mN hlt) Kr (sb 6)))))))))
        · have q3_0:=(beq_f h3)
          refine TC.sr (TL.r 3 [] [(50,.slice ((o_costs[k]?.getD Sl.zero).A) x.length ((o_costs[k]?.getD Sl.zero).cap)),(51,.i (x.length:Int)),(52,.i 0)] {} (TL.next rfl ?_))
          obtain ⟨R5,hR_2⟩:∃ R,R=assign_Best_L2 costs miss k x 0 left (-1) taken:=⟨_,rfl⟩
          refine TC.cut (S:=Int × Int × (List Bool)) (fun (left_3,choice_2,taken_4)=>[(0,.slice A_costs costs.length c_costs),(1,.i miss),(7,.i r1.1),(9,.slice A taken_4.length c),(10,.i left_3),(11,.slice A_out out.length c_out),(14,.i choice_2),(30,.slice A_costs costs.length c_costs),(31,.i (costs.length:Int)),(32,.i (k:Int))]) (fun (left_3,choice_2,taken_4)=>[Ow A_out c_out 3 1 (out.map ic),Ow A c 4 1 (taken_4.map bc)]) (fun (left_3,choice_2,taken_4)=>R5=(left_3,choice_2,taken_4) ∧ taken_4.length=taken.length) ?_ ?_
          · refine TC.block (TC.lw (X:=Nat × Int × Int × (List Bool)) (fun (k_2,left_2,choice,taken_3)=>[(0,.slice A_costs costs.length c_costs),(1,.i miss),(7,.i r1.1),(9,.slice A taken_3.length c),(10,.i left_2),(11,.slice A_out out.length c_out),(12,.i (k:Int)),(14,.i choice),(30,.slice A_costs costs.length c_costs),(31,.i (costs.length:Int)),(32,.i (k:Int)),(50,.slice ((o_costs[k]?.getD Sl.zero).A) x.length ((o_costs[k]?.getD Sl.zero).cap)),(51,.i (x.length:Int)),(52,.i (k_2:Int))]) (fun (k_2,left_2,choice,taken_3)=>[Ow A_out c_out 3 1 (out.map ic),Ow A c 4 1 (taken_3.map bc)]) (fun (k_2,left_2,choice,taken_3)=>x.length - k_2) (fun (k_2,left_2,choice,taken_3)=>k_2 ≤ x.length ∧ R5=assign_Best_L2 costs miss k (x.drop k_2) k_2 left_2 choice taken_3 ∧ taken_3.length=taken.length) ?_ (0,left,(-1),taken) ⟨Nat.zero_le _,hR_2,sz⟩ Kr (sb 3))
            rintro ⟨k_2,left_2,choice,taken_3⟩ ⟨hk_2,hI_2,hl_taken_3⟩
            refine TC.sr (TL.r 1 [] [(53,.b (decide ((k_2:Int) < (x.length:Int))))] {} (TL.ns (TC.cond (decide ((k_2:Int) < (x.length:Int))) rfl Kr (fun h4=>?_) (fun h4=>?_))))
            · have hlt_2:=ltN h4
              obtain ⟨x_2,hx_2⟩:=elN hlt_2
              have hd_2:=drop_at hx_2
              refine TC.sn (TC.seq (TC.block (TC.sr (TL.r 1 [] [(54,.i (k_2:Int))] {} (TL.v (sV (Instr.indexAt 22 (.slice ((o_costs[k]?.getD Sl.zero).A) x.length ((o_costs[k]?.getD Sl.zero).cap)) (.i (k_2:Int)))) 55 (.pointer (some ((((o_costs[k]?.getD Sl.zero).A).getD noAddr).add (k_2 * 1)))) (fun w hM=>run_index (el_rd ((sl_all hd_costs k).sat hM) (sl_at he_costs hx)) (by simp) Kr (by (try have kg_:=know_t hr1 h1);(try have kc_:=kg_.c1);(try have kn_:=kg_.n1);(try have kw_:=know_w hr2);(try have kx_:=know_at kg_ hx);exact sd) (by (try have kg_:=know_t hr1 h1);(try have kc_:=kg_.c1);(try have kn_:=kg_.n1);(try have kw_:=know_w hr2);(try have kx_:=know_at kg_ hx);exact sd)) {} (TL.v (sV (Instr.loadAt 3 (.pointer (some ((((o_costs[k]?.getD Sl.zero).A).getD noAddr).add (k_2 * 1)))))) 56 (.i x_2) (fun w hM=>run_load_one (off:=0) (i:=k_2) (.i x_2) (el_rd ((sl_all hd_costs k).sat hM) (sl_at he_costs hx)) (map_at hx_2) Kr Kr) {} (TL.r 5 [] [(15,.i (k_2:Int)),(16,.i x_2)] {} (TL.ns (TC.sr (TL.r 3 [] [(59,.b (decide (x_2 < 0)))] {} (TL.split 59 (decide (x_2 < 0)) Kr (fun h5=>?_) (fun h5=>?_))))))))))))
              · have q5_0:=(dec_t h5)
                refine TL.r 8 [] [(64,.b true)] {} (TL.next rfl (TC.condT rfl Kr (TC.exit (TE.et (TE.exit_same ?_)))))
                exact TE.next (TC.region (TL.r 2 [] [(52,.i (w64 ((k_2:Int) + 1)))] {} (TL.done rfl (TE.rw 52 (.i (w64 ((k_2:Int) + 1))) (.i ((k_2 + 1:Nat):Int)) Kr (w64_cast k_2 (by (try have kg_:=know_t hr1 h1);(try have kc_:=kg_.c1);(try have kn_:=kg_.n1);(try have kw_:=know_w hr2);(try have kx_:=know_at kg_ hx);omega)) (TE.again (x:=(k_2,left_2,choice,taken_3)) (k_2 + 1,left_2,choice,taken_3) ⟨by omega,hI_2.trans (by subst hr1 hr2 hr3;rw [hd_2];exact cond_t h5 (rfl)),(by (try have kg_:=know_t hr1 h1);(try have kc_:=kg_.c1);(try have kn_:=kg_.n1);(try have kw_:=know_w hr2);(try have kx_:=know_at kg_ hx);exact sl)⟩ (mN hlt_2) Kr (sb 3))))))
              · have q5_0:=(dec_f h5)
                refine TL.r 5 [] [(60,.slice A taken_3.length c),(61,.i (k_2:Int))] {} (TL.v (sV (Instr.indexAt 137 (.slice A taken_3.length c) (.i (k_2:Int)))) 62 (.pointer (some (Ix A (k_2 * 1)))) (fun w hM=>run_index (hM.rd_at 1 rfl) (by simp) Kr (by (try have kg_:=know_t hr1 h1);(try have kc_:=kg_.c1);(try have kn_:=kg_.n1);(try have kw_:=know_w hr2);(try have kx_:=know_at kg_ hx);exact sd) (by (try have kg_:=know_t hr1 h1);(try have kc_:=kg_.c1);(try have kn_:=kg_.n1);(try have kw_:=know_w hr2);(try have kx_:=know_at kg_ hx);exact sd)) {} (TL.v (sV (Instr.loadAt 4 (.pointer (some (Ix A (k_2 * 1)))))) 63 (.b ((taken_3[k_2]?.getD false))) (fun w hM=>run_load_one (off:=0) (i:=k_2) (.b ((taken_3[k_2]?.getD false))) (hM.rd_at 1 rfl) (map_at (getD_at _ _ false (by (try have kg_:=know_t hr1 h1);(try have kc_:=kg_.c1);(try have kn_:=kg_.n1);(try have kw_:=know_w hr2);(try have kx_:=know_at kg_ hx);exact sd))) Kr Kr) {} (TL.r 8 [] [(64,.b ((taken_3[k_2]?.getD false)))] {} (TL.next rfl (TC.cond ((taken_3[k_2]?.getD false)) rfl Kr (fun h6=>?_) (fun h6=>?_))))))
                · refine TC.exit (TE.et (TE.exit_same ?_))
                  exact TE.next (TC.region (TL.r 2 [] [(52,.i (w64 ((k_2:Int) + 1)))] {} (TL.done rfl (TE.rw 52 (.i (w64 ((k_2:Int) + 1))) (.i ((k_2 + 1:Nat):Int)) Kr (w64_cast k_2 (by (try have kg_:=know_t hr1 h1);(try have kc_:=kg_.c1);(try have kn_:=kg_.n1);(try have kw_:=know_w hr2);(try have kx_:=know_at kg_ hx);omega)) (TE.again (x:=(k_2,left_2,choice,taken_3)) (k_2 + 1,left_2,choice,taken_3) ⟨by omega,hI_2.trans (by subst hr1 hr2 hr3;rw [hd_2];exact cond_f h5 (cond_t h6 (rfl))),(by (try have kg_:=know_t hr1 h1);(try have kc_:=kg_.c1);(try have kn_:=kg_.n1);(try have kw_:=know_w hr2);(try have kx_:=know_at kg_ hx);exact sl)⟩ (mN hlt_2) Kr (sb 3))))))
                · refine TC.snr (TL.r 2 [] [(65,.slice A taken_3.length c),(66,.i (k_2:Int))] {} (TL.v (sV (Instr.indexAt 137 (.slice A taken_3.length c) (.i (k_2:Int)))) 67 (.pointer (some (Ix A (k_2 * 1)))) (fun w hM=>run_index (hM.rd_at 1 rfl) (by simp) Kr (by (try have kg_:=know_t hr1 h1);(try have kc_:=kg_.c1);(try have kn_:=kg_.n1);(try have kw_:=know_w hr2);(try have kx_:=know_at kg_ hx);exact sd) (by (try have kg_:=know_t hr1 h1);(try have kc_:=kg_.c1);(try have kn_:=kg_.n1);(try have kw_:=know_w hr2);(try have kx_:=know_at kg_ hx);exact sd)) {} (TL.ks (Γ:=Unit) (sU (Instr.storeAt 4 (.pointer (some ((Ix A (k_2 * 1)).add 0))) (.b true))) 1 (Ow A c 4 1 ((taken_3.set k_2 true).map bc)) (run_store_at (n:=1) (off:=0) (.b true) 1 ((taken_3.set k_2 true).map bc) rfl (map_at (getD_at _ _ false (by (try have kg_:=know_t hr1 h1);(try have kc_:=kg_.c1);(try have kn_:=kg_.n1);(try have kw_:=know_w hr2);(try have kx_:=know_at kg_ hx);exact sd))) Kr Kr Kr Kr (set_map_at Kr)) Kr (TL.rw 9 (.slice A taken_3.length c) (.slice A ((taken_3.set k_2 true).length) c) Kr (by simp only [List.length_set]) (TL.ns (TC.sr (TL.r 6 [] [(68,.i x_2),(69,.slice A_costs costs.length c_costs),(70,.i miss),(72,.i (w64 ((k:Int) + 1))),(73,.slice A ((taken_3.set k_2 true).length) c)] {} (TL.c 74 (assign_least costs miss (w64 ((k:Int) + 1)) (taken_3.set k_2 true)) (fun r4=>.i r4) (fun w hM=>assign_least_w A_costs c_costs costs o_costs miss (w64 ((k:Int) + 1)) A c (taken_3.set k_2 true) w (h_costs.sat hM) hc_costs (fun s hs=>(hd_costs s hs).sat hM) he_costs (hM.rd_at 1 rfl) (hM.le_at 1 rfl) (know_t hr1 h1) (by (try have kg_:=know_t hr1 h1);(try have kc_:=kg_.c1);(try have kn_:=kg_.n1);(try have kw_:=know_w hr2);(try have kx_:=know_at kg_ hx);exact sg) (by (try have kg_:=know_t hr1 h1);(try have kc_:=kg_.c1);(try have kn_:=kg_.n1);(try have kw_:=know_w hr2);(try have kx_:=know_at kg_ hx);exact sg)) {} (fun r4 hr4=>TL.r 10 [] [(77,.b ((w64 (x_2 + r4)) == left_2))] {} (TL.next rfl (TC.cond ((w64 (x_2 + r4)) == left_2) rfl Kr (fun h7=>?_) (fun h7=>?_))))))))))))
                  · have q7_0:=(beq_t h7)
                    refine TC.sr (TL.r 2 [] [(14,.i (k_2:Int))] {} (TL.nr (TL.r 4 [] [(10,.i (w64 (left_2 - x_2)))] {} (TL.next rfl (TC.exit (TE.et (TE.exit_other rfl (TE.et (TE.et (TE.exit_same ?_))))))))))
                    exact TE.cut (w64 (left_2 - x_2),(k_2:Int),(taken_3.set k_2 true)) (⟨hI_2.trans (by subst hr1 hr2 hr3 hr4;rw [hd_2];exact cond_f h5 (cond_f h6 (cond_t h7 (rfl)))),(by (try have kg_:=know_t hr1 h1);(try have kc_:=kg_.c1);(try have kn_:=kg_.n1);(try have kw_:=know_w hr2);(try have kx_:=know_at kg_ hx);exact sl)⟩) Kr (sb 3)
                  · have q7_0:=(beq_f h7)
                    exact TC.sn (TC.region (TL.r 2 [] [(82,.slice A ((taken_3.set k_2 true).length) c),(83,.i (k_2:Int))] {} (TL.v (sV (Instr.indexAt 137 (.slice A ((taken_3.set k_2 true).length) c) (.i (k_2:Int)))) 84 (.pointer (some (Ix A (k_2 * 1)))) (fun w hM=>run_index (hM.rd_at 1 rfl) (by simp) Kr (by (try have kg_:=know_t hr1 h1);(try have kc_:=kg_.c1);(try have kn_:=kg_.n1);(try have kw_:=know_w hr2);(try have kx_:=know_at kg_ hx);exact sd) (by (try have kg_:=know_t hr1 h1);(try have kc_:=kg_.c1);(try have kn_:=kg_.n1);(try have kw_:=know_w hr2);(try have kx_:=know_at kg_ hx);exact sd)) {} (TL.ks (Γ:=Unit) (sU (Instr.storeAt 4 (.pointer (some ((Ix A (k_2 * 1)).add 0))) (.b false))) 1 (Ow A c 4 1 (((taken_3.set k_2 true).set k_2 false).map bc)) (run_store_at (n:=1) (off:=0) (.b false) 1 (((taken_3.set k_2 true).set k_2 false).map bc) rfl (map_at (getD_at _ _ false (by (try have kg_:=know_t hr1 h1);(try have kc_:=kg_.c1);(try have kn_:=kg_.n1);(try have kw_:=know_w hr2);(try have kx_:=know_at kg_ hx);exact sd))) Kr Kr Kr Kr (set_map_at Kr)) Kr (TL.rw 9 (.slice A ((taken_3.set k_2 true).length) c) (.slice A (((taken_3.set k_2 true).set k_2 false).length) c) Kr (by simp only [List.length_set]) (TL.done rfl (TE.nb (TE.next (TC.region (TL.r 2 [] [(52,.i (w64 ((k_2:Int) + 1)))] {} (TL.done rfl (TE.rw 52 (.i (w64 ((k_2:Int) + 1))) (.i ((k_2 + 1:Nat):Int)) Kr (w64_cast k_2 (by (try have kg_:=know_t hr1 h1);(try have kc_:=kg_.c1);(try have kn_:=kg_.n1);(try have kw_:=know_w hr2);(try have kx_:=know_at kg_ hx);omega)) (TE.again (x:=(k_2,left_2,choice,taken_3)) (k_2 + 1,left_2,choice,((taken_3.set k_2 true).set k_2 false)) ⟨by omega,hI_2.trans (by subst hr1 hr2 hr3 hr4;rw [hd_2];exact cond_f h5 (cond_f h6 (cond_f h7 (rfl)))),(by (try have kg_:=know_t hr1 h1);(try have kc_:=kg_.c1);(try have kn_:=kg_.n1);(try have kw_:=know_w hr2);(try have kx_:=know_at kg_ hx);exact sl)⟩ (mN hlt_2) Kr (sb 3))))))))))))))
            · have hd_2:=dropN h4
              refine TC.exit (TE.et (TE.et (TE.exit_same ?_)))
              exact TE.cut (left_2,choice,taken_3) (⟨hI_2.trans (by subst hr1 hr2 hr3;rw [hd_2];exact rfl),(by (try have kg_:=know_t hr1 h1);(try have kc_:=kg_.c1);(try have kn_:=kg_.n1);(try have kw_:=know_w hr2);(try have kx_:=know_at kg_ hx);exact sl)⟩) Kr (sb 3)
          · rintro ⟨left_3,choice_2,taken_4⟩ ⟨hJ_2,hl_taken_4⟩
            refine TE.next (TC.region (TL.r 2 [] [(86,.slice A_out out.length c_out),(87,.i choice_2)] {} (TL.nw 88 (fun b2=>.slice (Pa b2) 1 1) (fun b2=>Bk b2 #[.i choice_2] 3) (fun b2=>{}) (fun b2=>TL.os (Γ:=AN) (sV (Builtin.append_ #[22,22] 22 #[.slice A_out out.length c_out,.slice (Pa b2) 1 1])) 89 (fun g=>.slice g.1 (out ++ ([choice_2])).length g.2) 1 (fun g=>Ow g.1 g.2 3 1 ((out ++ ([choice_2])).map ic)) (app_at (bytes:=8) 22 1 ([choice_2]) Kr rfl rfl ic_one rfl (fun w hM=>(Rd.lit hM 0 _ rfl Kr Kr Kr)) rfl (by (try have kg_:=know_t hr1 h1);(try have kc_:=kg_.c1);(try have kn_:=kg_.n1);(try have kw_:=know_w hr2);(try have kx_:=know_at kg_ hx);exact sa)) {} ?_))))
            rintro ⟨A_3,c_3⟩
            exact TL.r 5 [] [(11,.slice A_3 ((out ++ ([choice_2])).length) c_3)] {} (TL.done rfl (TE.nb (TE.next (TC.region (TL.r 2 [] [(32,.i (w64 ((k:Int) + 1)))] {} (TL.done rfl (TE.rw 32 (.i (w64 ((k:Int) + 1))) (.i ((k + 1:Nat):Int)) Kr (w64_cast k (by (try have kg_:=know_t hr1 h1);(try have kc_:=kg_.c1);(try have kn_:=kg_.n1);(try have kw_:=know_w hr2);(try have kx_:=know_at kg_ hx);omega)) (TE.again (x:=(k,left,out,taken,A_out,c_out)) (k + 1,left_3,(out ++ ([choice_2])),taken_4,A_3,c_3) ⟨by omega,hI.trans (by subst hr1 hr2 hr3;rw [hd];exact cond_f h3 (bindv_eq (hR_2.symm.trans hJ_2) (rfl))),(by (try have kg_:=know_t hr1 h1);(try have kc_:=kg_.c1);(try have kn_:=kg_.n1);(try have kw_:=know_w hr2);(try have kx_:=know_at kg_ hx);exact sl),(by (try have kg_:=know_t hr1 h1);(try have kc_:=kg_.c1);(try have kn_:=kg_.n1);(try have kw_:=know_w hr2);(try have kx_:=know_at kg_ hx);exact sl)⟩ (mN hlt) Kr (sb 6)))))))))
      · have hd:=dropN h2
        refine TC.exit (TE.et (TE.et (TE.exit_same ?_)))
        exact TE.cut (out,taken,A_out,c_out) (⟨hI.trans (by subst hr1 hr2;rw [hd];exact rfl),(by (try have kg_:=know_t hr1 h1);(try have kc_:=kg_.c1);(try have kn_:=kg_.n1);(try have kw_:=know_w hr2);(try have kx_:=know_at kg_ hx);exact sl),(by (try have kg_:=know_t hr1 h1);(try have kc_:=kg_.c1);(try have kn_:=kg_.n1);(try have kw_:=know_w hr2);(try have kx_:=know_at kg_ hx);exact sl)⟩) Kr (sb 1)
    · rintro ⟨out_2,taken_2,A_out_2,c_out_2⟩ ⟨hJ,hl_out_2,hl_taken_2⟩
      refine TE.nr (TL.r 5 [] [(4,.slice A_out_2 out_2.length c_out_2),(5,.i r1.1),(6,.i 0)] {} (TL.next rfl (TC.ret ?_)))
      have e:assign_Best costs miss=(out_2,r1.1,0):=by subst hr1 hr2;unfold assign_Best;exact cond_f h1 (bindv_eq (hR.symm.trans hJ) (rfl))
      rw [e]
      exact TE.retM (.inl rfl) (A_out_2,c_out_2) [] (.tuple #[.slice A_out_2 out_2.length c_out_2,.i r1.1,.i 0]) {} rfl (fun _ hM=>hM.sub (sb 1))
end Go.Sky
end
section
namespace Go.Sky
open Go Go.Eng
theorem divDown_eq {a b:Int} (hb:0 < b) (ha:-9223372036854775807 ≤ a ∧ a ≤ 9223372036854775807):num_DivDown a b=(a / b,0):=by
  unfold num_DivDown
  have e0:(b == 0)=false:=by simp;omega
  have e1:(a == (-9223372036854775808))=false:=by simp;omega
  have e2:decide (b < 0)=false:=by simp;omega
  simp only [e0,e1,e2,Bool.false_and,cond_false]
  by_cases h:0 ≤ a
  · have e3:decide (a < 0)=false:=by simp;omega
    have hw:w64 (a / b)=a / b:=w64_id (by have:=quot_le h hb;omega)
    simp [e3,tdiv_pos b h,hw]
  · have e3:decide (a < 0)=true:=by simp;omega
    have hq:=quot_le (a:=-a) (b:=b) (by omega) hb
    have hm:a=b * (a / b) + a % b:=(Int.mul_ediv_add_emod a b).symm
    have hn:-a=b * (-a / b) + -a % b:=(Int.mul_ediv_add_emod (-a) b).symm
    have r1:=Int.emod_nonneg a (show b ≠ 0 by omega)
    have r2:=Int.emod_lt_of_pos a hb
    have r3:=Int.emod_nonneg (-a) (show b ≠ 0 by omega)
    have r4:=Int.emod_lt_of_pos (-a) hb
    rw [e3,tmod_neg b (by omega),tdiv_neg b (by omega),w64_id (x:=-(-a / b)) (by omega)]
    by_cases hz:-a % b=0
    · have:a / b=-(-a / b):=by
        have h1:a=b * (-(-a / b)):=by rw [Int.mul_neg];omega
        have h2:a / b=-(-a / b):=by
          conv=>lhs;rw [h1]
          exact Int.mul_ediv_cancel_left _ (by omega)
        exact h2
      have e4:((-(-a % b)) != 0)=false:=by rw [hz];rfl
      rw [e4]
      simp only [Bool.false_and,cond_false,this]
    · have e4:((-(-a % b)) != 0)=true:=by simp;omega
      rw [e4]
      have e5:(true && !(true == false))=true:=rfl
      rw [e5,cond_true]
      have:a / b=-(-a / b) - 1:=by
        rw [Int.ediv_eq_iff_of_pos hb]
        rw [Int.mul_comm]
        constructor
        · rw [Int.mul_sub,Int.mul_neg];omega
        · rw [Int.mul_sub,Int.mul_neg];omega
      rw [w64_id (by omega),this]
theorem divUp_eq {a b:Int} (hb:0 < b) (ha:-9223372036854775807 ≤ a ∧ a ≤ 9223372036854775806):num_DivUp a b=(-(-a / b),0):=by
  unfold num_DivUp
  simp only [divDown_eq hb (show -9223372036854775807 ≤ a ∧ a ≤ 9223372036854775807 by omega),beq_self_eq_true,cond_true]
  have hm:a=b * (a / b) + a % b:=(Int.mul_ediv_add_emod a b).symm
  have r1:=Int.emod_nonneg a (show b ≠ 0 by omega)
  have r2:=Int.emod_lt_of_pos a hb
  have hz:a.tmod b=0 ↔ a % b=0:=by
    rw [← Int.dvd_iff_tmod_eq_zero,← Int.dvd_iff_emod_eq_zero]
  have hle:a / b ≤ 9223372036854775806 ∧ -9223372036854775807 ≤ a / b:=by
    by_cases h:0 ≤ a
    · have:=quot_le h hb;omega
    · have h1:a ≤ a / b:=by
        rw [Int.le_ediv_iff_mul_le hb]
        have:a * b ≤ a * 1:=Int.mul_le_mul_of_nonpos_left (by omega) (by omega)
        omega
      have h2:a / b < 0:=Int.ediv_neg_of_neg_of_pos (by omega) hb
      omega
  by_cases h:a % b=0
  · have e:(a.tmod b != 0)=false:=by simpa using hz.2 h
    rw [e,cond_false]
    congr 1
    have h1:-a=b * (-(a / b)):=by rw [Int.mul_neg];omega
    have h2:-a / b=-(a / b):=by
      conv=>lhs;rw [h1]
      exact Int.mul_ediv_cancel_left _ (by omega)
    omega
  · have e:(a.tmod b != 0)=true:=by simpa using fun hh=>h (hz.1 hh)
    rw [e,cond_true,w64_id (by omega)]
    congr 1
    have h2:-a / b=-(a / b) - 1:=by
      rw [Int.ediv_eq_iff_of_pos hb,Int.mul_comm]
      constructor
      · rw [Int.mul_sub,Int.mul_neg];omega
      · rw [Int.mul_sub,Int.mul_neg];omega
    omega
end Go.Sky
namespace Go.Sky
open Go Go.Eng Go.Glue
def P.In (p:P):Prop:=-1000000 ≤ p.X ∧ p.X ≤ 1000000 ∧ -1000000 ≤ p.Y ∧ p.Y ≤ 1000000
def Spot.In (s:Spot):Prop:=(0 ≤ s.Time ∧ s.Time ≤ 200000) ∧ s.At.In ∧ (0 ≤ s.Height ∧ s.Height ≤ 60000) ∧ (-1 ≤ s.Code ∧ s.Code ≤ 4095) ∧ (0 ≤ s.Error ∧ s.Error ≤ 1000000)
def Track.In (t:Track):Prop:=(0 ≤ t.Time ∧ t.Time ≤ 200000) ∧ t.At.In ∧ (0 ≤ t.Height ∧ t.Height ≤ 60000) ∧ (-1 ≤ t.Code ∧ t.Code ≤ 4095) ∧ (0 ≤ t.Radius ∧ t.Radius ≤ 4000000)
theorem out_radar {n a b:Int}:radar_out n a b=decide (¬ (a ≤ n ∧ n ≤ b)):=by
  unfold radar_out;rw [Bool.eq_iff_iff];simp
theorem checkP_eq (p:P):plane_Check p=0 ∧ p.In ∨ plane_Check p=4 ∧ ¬ p.In:=by
  unfold plane_Check P.In
  rw [ite_of_cond]
  split
  · rename_i h;simp at h;exact .inr ⟨rfl,by omega⟩
  · rename_i h;simp at h;exact .inl ⟨rfl,by omega⟩
theorem checkSpot_eq (s:Spot):radar_CheckSpot s=0 ∧ s.In ∨ radar_CheckSpot s=4 ∧ ¬ s.In:=by
  unfold radar_CheckSpot Spot.In
  simp only [ite_of_cond,out_radar,decide_eq_true_eq]
  split
  · exact .inr ⟨rfl,fun h=>by omega⟩
  · rcases checkP_eq s.At with ⟨h1,h2⟩ | ⟨h1,h2⟩
    · rw [h1,if_neg (by simp)]
      split
      · exact .inr ⟨rfl,fun h=>by omega⟩
      · split
        · exact .inr ⟨rfl,fun h=>by omega⟩
        · split
          · exact .inr ⟨rfl,fun h=>by omega⟩
          · exact .inl ⟨rfl,by omega,h2,by omega,by omega,by omega⟩
    · rw [h1,if_pos (by simp)]
      exact .inr ⟨rfl,fun h=>h2 h.2.1⟩
theorem checkSpot_iff {s:Spot}:radar_CheckSpot s=0 ↔ s.In:=by
  rcases checkSpot_eq s with ⟨h1,h2⟩ | ⟨h1,h2⟩
  · exact ⟨fun _=>h2,fun _=>h1⟩
  · exact ⟨fun h=>by omega,fun h=>absurd h h2⟩
theorem checkTrack_eq (t:Track):gate_CheckTrack t=0 ∧ t.In ∨ gate_CheckTrack t=4 ∧ ¬ t.In:=by
  unfold gate_CheckTrack Track.In
  simp only [ite_of_cond]
  rcases checkSpot_eq ⟨t.Time,t.At,t.Height,t.Code,0⟩ with ⟨h1,h2⟩ | ⟨h1,h2⟩
  · rw [h1]
    obtain ⟨g1,g2,g3,g4,_⟩:=h2
    split
    · rename_i h;simp at h;exact .inr ⟨rfl,fun hh=>by omega⟩
    · rename_i h;simp at h;exact .inl ⟨rfl,g1,g2,g3,g4,by omega⟩
  · rw [h1,if_pos (by simp)]
    exact .inr ⟨rfl,fun hh=>h2 ⟨hh.1,hh.2.1,hh.2.2.1,hh.2.2.2.1,show (0:Int) ≤ 0 ∧ (0:Int) ≤ 1000000 by decide⟩⟩
theorem sq_bound {x n:Int} (h:-n ≤ x ∧ x ≤ n):0 ≤ x * x ∧ x * x ≤ n * n:=by
  constructor
  · rcases Int.le_total 0 x with h0 | h0
    · exact Int.mul_nonneg h0 h0
    · rw [← Int.neg_mul_neg];exact Int.mul_nonneg (by omega) (by omega)
  · by_cases hx:0 ≤ x
    · exact Int.mul_le_mul h.2 h.2 hx (by omega)
    · have:(-x) * (-x) ≤ n * n:=Int.mul_le_mul (by omega) (by omega) (by omega) (by omega)
      rwa [Int.neg_mul_neg] at this
theorem square_eq {p q:P} (hp:p.In) (hq:q.In):plane_Square p q=(p.X - q.X) * (p.X - q.X) + (p.Y - q.Y) * (p.Y - q.Y) ∧ 0 ≤ plane_Square p q ∧ plane_Square p q ≤ 8000000000000:=by
  obtain ⟨p1,p2,p3,p4⟩:=hp
  obtain ⟨q1,q2,q3,q4⟩:=hq
  have b1:=sq_bound (x:=p.X - q.X) (n:=2000000) (by omega)
  have b2:=sq_bound (x:=p.Y - q.Y) (n:=2000000) (by omega)
  have e:plane_Square p q=(p.X - q.X) * (p.X - q.X) + (p.Y - q.Y) * (p.Y - q.Y):=by
    show w64 (w64 (w64 (p.X - q.X) * w64 (p.X - q.X)) + w64 (w64 (p.Y - q.Y) * w64 (p.Y - q.Y)))=_
    rw [w64_id (x:=p.X - q.X) (by omega),w64_id (x:=p.Y - q.Y) (by omega),w64_id (x:=(p.X - q.X) * (p.X - q.X)) (by omega),w64_id (x:=(p.Y - q.Y) * (p.Y - q.Y)) (by omega),w64_id (by omega)]
  exact ⟨e,by omega,by omega⟩
end Go.Sky
namespace Go.Sky
open Go Go.Eng Go.Glue
def FilterTrack.In (f:FilterTrack):Prop :=
  f.Track.In ∧ (-12800 ≤ f.Track.Speed.X ∧ f.Track.Speed.X ≤ 12800) ∧ (-12800 ≤ f.Track.Speed.Y ∧ f.Track.Speed.Y ≤ 12800) ∧ (-3200 ≤ f.Track.Rate ∧ f.Track.Rate ≤ 3200) ∧ (0 ≤ f.Slack ∧ f.Slack ≤ 409600)
    ∧ (0 ≤ f.Track.ID ∧ 0 ≤ f.Track.Hits ∧ 0 ≤ f.Track.Misses) ∧ (0 ≤ f.Track.State ∧ f.Track.State ≤ 2) ∧ f.Last.In ∧ f.Last.Time ≤ f.Track.Time
theorem out_filter {n a b:Int}:filter_out n a b=decide (¬ (a ≤ n ∧ n ≤ b)):=by
  unfold filter_out;rw [Bool.eq_iff_iff];simp
theorem check_eq (f:FilterTrack):filter_Check f=0 ∧ f.In ∨ (filter_Check f=1 ∨ filter_Check f=4 ∨ filter_Check f=12) ∧ ¬ f.In:=by
  unfold filter_Check FilterTrack.In
  simp only [ite_of_cond,out_filter,decide_eq_true_eq]
  rcases checkTrack_eq f.Track with ⟨h1,h2⟩ | ⟨h1,h2⟩
  · rw [h1,if_neg (by simp)]
    split
    · exact .inr ⟨by simp,fun h=>by omega⟩
    · split
      · exact .inr ⟨by simp,fun h=>by omega⟩
      · split
        · exact .inr ⟨by simp,fun h=>by omega⟩
        · split
          · rename_i h;simp at h;exact .inr ⟨by simp,fun h=>by omega⟩
          · rename_i h7;simp at h7
            split
            · exact .inr ⟨by simp,fun h=>by omega⟩
            · rcases checkSpot_eq f.Last with ⟨h3,h4⟩ | ⟨h3,h4⟩
              · rw [h3,if_neg (by simp)]
                split
                · exact .inr ⟨by simp,fun h=>by omega⟩
                · exact .inl ⟨rfl,h2,by omega,by omega,by omega,by omega,by omega,by omega,h4,by omega⟩
              · rw [h3,if_pos (by simp)]
                exact .inr ⟨by simp,fun h=>h4 h.2.2.2.2.2.2.2.1⟩
  · rw [h1,if_pos (by simp)]
    exact .inr ⟨by simp,fun h=>h2 h.1⟩
theorem check_iff {f:FilterTrack}:filter_Check f=0 ↔ f.In:=by
  rcases check_eq f with ⟨h1,h2⟩ | ⟨h1,h2⟩
  · exact ⟨fun _=>h2,fun _=>h1⟩
  · exact ⟨fun h=>by omega,fun h=>absurd h h2⟩
theorem predict_in {f:FilterTrack} {t a:Int} (h:(filter_Predict f t a).2=0):(filter_Predict f t a).1.In:=by
  unfold filter_Predict at h ⊢
  simp only [ite_of_cond] at h ⊢
  by_cases h1:(filter_Check f != 0)=true
  · rw [if_pos h1] at h;simp at h h1;exact absurd h h1
  · rw [if_neg h1] at h ⊢
    have hc:f.In:=check_iff.1 (by simpa using h1)
    by_cases h2:filter_out t 0 200000=true
    · rw [if_pos h2] at h;cases h
    · rw [if_neg h2] at h ⊢
      by_cases h3:filter_out a 0 20=true
      · rw [if_pos h3] at h;cases h
      · rw [if_neg h3] at h ⊢
        by_cases h4:filter_out (w64 (t - f.Track.Time)) 0 600=true
        · rw [if_pos h4] at h;cases h
        · rw [if_neg h4] at h ⊢
          by_cases h5:(w64 (t - f.Track.Time) == 0)=true
          · rw [if_pos h5];exact hc
          · rw [if_neg h5] at h ⊢
            generalize hg:(⟨⟨f.Track.ID,f.Track.State,t,plane_Add f.Track.At ⟨filter_down (w64 (f.Track.Speed.X * w64 (t - f.Track.Time))) 16,filter_down (w64 (f.Track.Speed.Y * w64 (t - f.Track.Time))) 16⟩,f.Track.Speed,num_Between (w64 (f.Track.Height + filter_down (w64 (f.Track.Rate * w64 (t - f.Track.Time))) 16)) 0 60000,f.Track.Rate,w64 (f.Track.Radius + (gate_Reach f.Slack a (w64 (t - f.Track.Time))).1),f.Track.Code,f.Track.Hits,f.Track.Misses⟩,w64 (f.Slack + w64 (w64 (16 * a) * w64 (t - f.Track.Time))),f.Last⟩:FilterTrack)=g at h ⊢
            by_cases h6:(filter_Check g != 0)=true
            · rw [if_pos h6] at h;cases h
            · rw [if_neg h6];exact check_iff.1 (by simpa using h6)
end Go.Sky
end
section
namespace Go.Sky
open Go Go.Eng
section
variable (c0:Int) (c1:List FilterTrack)
theorem goneIdx:∀ (l:List followed) (k:Nat),(IndexFunc_gone_L1 c0 c1 l k=.inl () ∧ ∀ x ∈ l,tracker_Tracker_fuse_1 x c0 c1=false) ∨
    ∃ j:Nat,IndexFunc_gone_L1 c0 c1 l k=.inr ((k + j:Nat):Int) ∧ (∀ x ∈ l.take j,tracker_Tracker_fuse_1 x c0 c1=false) ∧ ∃ x,l[j]? = some x ∧ tracker_Tracker_fuse_1 x c0 c1=true
  | [],k=>.inl ⟨rfl,by simp⟩
  | x :: xs,k=>by
    unfold IndexFunc_gone_L1
    simp only
    cases hx:tracker_Tracker_fuse_1 x c0 c1 with
    | true=>exact .inr ⟨0,rfl,by simp,x,rfl,hx⟩
    | false =>
      rcases goneIdx xs (k + 1) with ⟨h,h2⟩ | ⟨j,h,h2,y,h3,h4⟩
      · refine .inl ⟨h,fun y hy=>?_⟩
        rcases List.mem_cons.1 hy with rfl | hy
        · exact hx
        · exact h2 y hy
      · refine .inr ⟨j + 1,?_,fun y hy=>?_,y,?_,h4⟩
        · rw [cond_false,h];congr 2;omega
        · rw [List.take_succ_cons] at hy
          rcases List.mem_cons.1 hy with rfl | hy
          · exact hx
          · exact h2 y hy
        · rw [List.getElem?_cons_succ];exact h3
theorem take_next {α:Type} {l:List α} {j:Nat} {x:α} (h:l[j]? = some x):l.take (j + 1)=l.take j ++ [x]:=by
  rw [List.take_add_one,h];rfl
theorem set_take {α:Type} {l:List α} {a:Nat} (x:α) (h:a < l.length):(l.set a x).take (a + 1)=l.take a ++ [x]:=by
  rw [take_next (x:=x) (by rw [List.getElem?_set_self h]),List.take_set_of_le (Nat.le_refl a)]
theorem delRun (s:List followed) (n:Nat) (hs:s.length < 1000000000000):∀ (m k a:Nat) (s2:List followed),s.length=n + 1 + k + m → s2.length=s.length → a ≤ n + 1 + k → s2.drop (n + 1 + k)=s.drop (n + 1 + k) →
    s2.take a=(s.take (n + 1 + k)).filter (fun x=>!tracker_Tracker_fuse_1 x c0 c1) →
    ∃ (b:Nat) (s3:List followed),DeleteFunc_gone_L1 c0 c1 (n:Int) m k (a:Int) s2=((b:Int),s3) ∧ b ≤ s.length ∧ s3.length=s.length ∧ s3.take b=s.filter (fun x=>!tracker_Tracker_fuse_1 x c0 c1)
  | 0,k,a,s2,h1,h2,h3,_,h5=>by
    refine ⟨a,s2,rfl,by omega,h2,?_⟩
    rw [h5,List.take_of_length_le (by omega)]
  | m + 1,k,a,s2,h1,h2,h3,h4,h5=>by
    have hj:n + 1 + k < s.length:=by omega
    have ei:(((n:Int) + 1) + (k:Int)).toNat=n + 1 + k:=by omega
    have hx:s[n + 1 + k]? = some (s[n + 1 + k]'hj):=List.getElem?_eq_getElem hj
    generalize s[n + 1 + k]'hj=x at hx
    have hx2:s2[n + 1 + k]? = some x:=by
      have:=congrArg (fun l=>l[0]?) h4
      simp only [List.getElem?_drop,Nat.add_zero] at this
      rw [this,hx]
    have hd:s2.drop (n + 1 + (k + 1))=s.drop (n + 1 + (k + 1)):=by
      have:=congrArg (fun l=>l.drop 1) h4
      simp only [List.drop_drop] at this
      rw [show n + 1 + (k + 1)=n + 1 + k + 1 by omega]
      exact this
    have ht:s.take (n + 1 + (k + 1))=s.take (n + 1 + k) ++ [x]:=by
      rw [show n + 1 + (k + 1)=n + 1 + k + 1 by omega];exact take_next hx
    unfold DeleteFunc_gone_L1
    simp only
    rw [ei,hx2,Option.getD_some]
    cases hg:tracker_Tracker_fuse_1 x c0 c1 with
    | true =>
      rw [Bool.not_true,cond_false]
      refine delRun s n hs m (k + 1) a s2 (by omega) h2 (by omega) hd ?_
      rw [h5,ht,List.filter_append]
      simp [hg]
    | false =>
      rw [Bool.not_false,cond_true,w64_id (by omega),show (a:Int) + 1=((a + 1:Nat):Int) by omega,Int.toNat_natCast]
      refine delRun s n hs m (k + 1) (a + 1) (s2.set a x) (by omega) (by rw [List.length_set];exact h2) (by omega) ?_ ?_
      · rw [List.drop_set_of_lt (by omega)];exact hd
      · rw [set_take x (by omega),h5,ht,List.filter_append]
        simp [hg]
theorem delete_eq (s:List followed) (hs:s.length < 1000000000000):DeleteFunc_gone s c0 c1=s.filter (fun x=>!tracker_Tracker_fuse_1 x c0 c1):=by
  unfold DeleteFunc_gone IndexFunc_gone
  rcases goneIdx c0 c1 s 0 with ⟨h,h2⟩ | ⟨j,h,h2,y,h3,h4⟩
  · rw [h]
    show s=_
    exact (List.filter_eq_self.2 (fun x hx=>by simp [h2 x hx])).symm
  · rw [h,Nat.zero_add]
    have hj:j < s.length:=(List.getElem?_eq_some_iff.1 h3).1
    simp only [Sum.elim_inr]
    rw [show ((j:Int) == (-1))=false from beq_eq_false_iff_ne.2 (by omega),cond_false]
    obtain ⟨b,s3,e,hb,hl,ht⟩:=delRun c0 c1 s j hs (s.length - (j + 1)) 0 j s (by omega) rfl (by omega) rfl (by
      rw [Nat.add_zero,take_next h3,List.filter_append,List.filter_eq_self.2 (fun x hx=>by simp [h2 x hx])]
      simp [h4])
    rw [show ((s.length:Int) - ((j:Int) + 1)).toNat=s.length - (j + 1) by omega,e]
    show (s3.take (b:Int).toNat ++ _).take (b:Int).toNat=_
    rw [Int.toNat_natCast,List.take_append_of_le_length (by rw [List.length_take];omega),List.take_take,Nat.min_self,ht]
end
theorem fuse_all {t r:Tracker} {time:Int} (hr:tracker_Tracker_fuse t time=r) (h:t.all.length ≤ 64):∃ now,r=⟨t.rules,t.all.filter (fun x=>!tracker_Tracker_fuse_1 x time now),t.next,t.last⟩:=by
  subst hr
  unfold tracker_Tracker_fuse bindv
  simp only
  exact ⟨_,by rw [delete_eq _ _ _ (by omega)]⟩
theorem fuse_len {t r:Tracker} {time:Int} (hr:tracker_Tracker_fuse t time=r) (h:t.all.length ≤ 64):r.all.length ≤ t.all.length:=by
  obtain ⟨now,rfl⟩:=fuse_all hr h
  exact List.length_filter_le ..
end Go.Sky
namespace Go.Sky
open Go Go.Eng Go.Glue Go.Srt
def Sp (time:Int) (l:List Spot):Prop:=∀ s ∈ l,s.In ∧ s.Time=time
def Tr (time:Int) (l:List Track):Prop:=∀ t ∈ l,t.In ∧ t.Time=time
theorem check_L1 (time:Int):∀ (xs:List Spot) (k:Nat),(tracker_Tracker_check_L1 time xs k=.inl () ∧ Sp time xs) ∨ (∃ e,tracker_Tracker_check_L1 time xs k=.inr e ∧ e ≠ 0) ∧ ¬ Sp time xs
  | [],_=>.inl ⟨rfl,fun _ h=>by cases h⟩
  | x :: xs,k=>by
    unfold tracker_Tracker_check_L1
    simp only
    rcases checkSpot_eq x with ⟨h1,h2⟩ | ⟨h1,h2⟩
    · rw [h1,show ((0:Int) != 0)=false from rfl,cond_false]
      by_cases ht:x.Time=time
      · rw [show (x.Time != time)=false by simpa using ht,cond_false]
        rcases check_L1 time xs (k + 1) with ⟨h,h3⟩ | ⟨h,h3⟩
        · refine .inl ⟨h,fun s hs=>?_⟩
          rcases List.mem_cons.1 hs with rfl | hs
          · exact ⟨h2,ht⟩
          · exact h3 s hs
        · exact .inr ⟨h,fun hh=>h3 fun s hs=>hh s (List.mem_cons_of_mem _ hs)⟩
      · rw [show (x.Time != time)=true by simpa using ht,cond_true]
        exact .inr ⟨⟨12,rfl,by decide⟩,fun hh=>ht (hh x (List.mem_cons_self ..)).2⟩
    · rw [h1,show ((4:Int) != 0)=true from rfl,cond_true]
      exact .inr ⟨⟨4,rfl,by decide⟩,fun hh=>h2 (hh x (List.mem_cons_self ..)).1⟩
theorem check_ok {t:Tracker} {l:List Spot} {time:Int}:tracker_Tracker_check t l time=0 ↔ l.length ≤ 32 ∧ (0 ≤ time ∧ time ≤ 200000) ∧ t.last < time ∧ Sp time l:=by
  unfold tracker_Tracker_check
  simp only [ite_of_cond]
  by_cases h1:(l.length:Int) > 32
  · rw [if_pos (decide_eq_true h1)]
    exact ⟨fun h=>(by cases h),fun h=>by omega⟩
  · rw [if_neg (by simpa using h1)]
    by_cases h2:0 ≤ time ∧ time ≤ 200000
    · rw [if_neg (by simp;omega)]
      by_cases h3:time ≤ t.last
      · rw [if_pos (decide_eq_true h3)]
        exact ⟨fun h=>(by cases h),fun h=>by omega⟩
      · rw [if_neg (by simpa using h3)]
        rcases check_L1 time l 0 with ⟨h,h4⟩ | ⟨⟨e,h,he⟩,h4⟩
        · rw [h]
          exact ⟨fun _=>⟨by omega,h2,by omega,h4⟩,fun _=>rfl⟩
        · rw [h]
          exact ⟨fun hh=>absurd hh he,fun hh=>absurd hh.2.2.2 h4⟩
    · rw [if_pos (by simp;omega)]
      exact ⟨fun h=>(by cases h),fun h=>absurd h.2.1 h2⟩
theorem keep_sub {band:Int}:∀ (xs:List Spot) (k:Nat) (out:List Spot),∃ ys,ys.Sublist xs ∧ fuse_Spots_L2 band xs k out=out ++ ys
  | [],_,out=>⟨[],.slnil,by unfold fuse_Spots_L2;rw [List.append_nil]⟩
  | x :: xs,k,out=>by
    unfold fuse_Spots_L2
    simp only
    cases ContainsFunc_spot out x band
    · rw [Bool.not_false,cond_true]
      obtain ⟨ys,h1,h2⟩:=keep_sub (band:=band) xs (k + 1) (out ++ [x])
      exact ⟨x :: ys,h1.cons_cons x,by rw [h2,List.append_assoc];rfl⟩
    · rw [Bool.not_true,cond_false]
      obtain ⟨ys,h1,h2⟩:=keep_sub (band:=band) xs (k + 1) out
      exact ⟨ys,h1.cons x,h2⟩
theorem check_spots {time:Int}:∀ (xs:List Spot) (k:Nat),Sp time xs → fuse_Spots_L1 xs k=.inl ()
  | [],_,_=>rfl
  | x :: xs,k,h=>by
    unfold fuse_Spots_L1
    simp only
    rw [checkSpot_iff.2 (h x (List.mem_cons_self ..)).1]
    exact check_spots xs (k + 1) fun s hs=>h s (List.mem_cons_of_mem _ hs)
theorem spots_eq {l:List Spot} {time:Int} (hl:l.length ≤ 32) (h:Sp time l):fuse_Spots l 500=(fuse_Spots_L2 500 (sortS l) 0 [],0):=by
  unfold fuse_Spots
  rw [show decide ((l.length:Int) > 128)=false by simp;omega,cond_false,check_spots l 0 h]
  rfl
theorem spots_in {l:List Spot} {time:Int} {r:List Spot × Int} (hl:l.length ≤ 32) (h:Sp time l) (hr:fuse_Spots l 500=r):r.1.length ≤ l.length ∧ Sp time r.1:=by
  subst hr
  rw [spots_eq hl h]
  obtain ⟨ys,h1,h2⟩:=keep_sub (band:=500) (sortS l) 0 []
  rw [List.nil_append] at h2
  simp only
  rw [h2]
  have hp:(sortS l).Perm l:=List.mergeSort_perm ..
  exact ⟨by have:=h1.length_le;rw [hp.length_eq] at this;exact this,fun s hs=>h s (hp.mem_iff.1 (h1.mem hs))⟩
def costOf (t:Track) (band:Int) (s:Spot):Int:=cond (gate_Fits t s band).1 (imin (w64 ((plane_Square t.At s.At).tdiv 10000)) 1073741824) (-1)
theorem fits_ok {t:Track} {s:Spot} {band time:Int} (hb:0 ≤ band ∧ band ≤ 60000) (ht:t.In ∧ t.Time=time) (hs:s.In ∧ s.Time=time):(gate_Fits t s band).2=0:=by
  have e1:gate_CheckTrack t=0:=by
    rcases checkTrack_eq t with ⟨h,_⟩ | ⟨_,h⟩
    · exact h
    · exact absurd ht.1 h
  unfold gate_Fits
  rw [e1,checkSpot_iff.2 hs.1]
  simp only [ite_of_cond]
  rw [if_neg (by decide),if_neg (by decide),if_neg (by simp;omega),if_neg (by rw [ht.2,hs.2];simp)]
  split
  · split
    · rfl
    · split <;> rfl
  · rfl
theorem cost_in {t:Track} {s:Spot} {band:Int} (ht:t.In) (hs:s.In):-1 ≤ costOf t band s ∧ costOf t band s ≤ 1099511627776:=by
  unfold costOf
  cases (gate_Fits t s band).1
  · exact ⟨show (-1:Int) ≤ -1 by decide,show (-1:Int) ≤ 1099511627776 by decide⟩
  · rw [cond_true]
    have h:=square_eq ht.2.1 hs.2.1
    have h1:0 ≤ plane_Square t.At s.At / 10000 ∧ plane_Square t.At s.At / 10000 ≤ plane_Square t.At s.At:=quot_le h.2.1 (by decide)
    rw [tdiv_pos 10000 h.2.1,w64_id (by omega)]
    unfold imin
    split <;> omega
theorem costs_L2 {band time:Int} {x:Track} (hb:0 ≤ band ∧ band ≤ 60000) (hx:x.In ∧ x.Time=time):∀ (l:List Spot) (k:Nat) (row:List Int),row.length=k + l.length → Sp time l → gate_Costs_L2 band x l k row=.inl (row.take k ++ l.map (costOf x band))
  | [],k,row,h,_=>by
    show Sum.inl row=_
    rw [List.map_nil,List.append_nil,List.take_of_length_le (by simp at h;omega)]
  | s :: l,k,row,h,hs=>by
    rw [List.length_cons] at h
    unfold gate_Costs_L2
    simp only
    rw [fits_ok hb hx (hs s (List.mem_cons_self ..)),show ((0:Int) != 0)=false from rfl,cond_false]
    have key:∀ v:Int,v=costOf x band s → ∀ row':List Int,row'=row.set k v → gate_Costs_L2 band x l (k + 1) row'=.inl (row.take k ++ (s :: l).map (costOf x band)):=by
      intro v hv row' hr
      subst hr
      rw [costs_L2 hb hx l (k + 1) (row.set k v) (by rw [List.length_set];omega) (fun s hs'=>hs s (List.mem_cons_of_mem _ hs')),set_take v (by omega),List.append_assoc,List.map_cons,hv];rfl
    cases hf:(gate_Fits x s band).1
    · exact key (-1) (by unfold costOf;rw [hf];rfl) _ rfl
    · exact key _ (by unfold costOf;rw [hf,cond_true]) _ (by rw [List.set_set])
theorem costs_L1 {spots:List Spot} {band time:Int} (hb:0 ≤ band ∧ band ≤ 60000) (hs:Sp time spots):∀ (l:List Track) (k:Nat) (out:List (List Int)),Tr time l → gate_Costs_L1 spots band l k out=.inl (out ++ l.map (fun t=>spots.map (costOf t band)))
  | [],k,out,_=>by show Sum.inl out=_;simp
  | x :: l,k,out,h=>by
    unfold gate_Costs_L1
    rw [costs_L2 hb (h x (List.mem_cons_self ..)) spots 0 (List.replicate ((spots.length:Int).toNat) (0:Int)) (by simp) hs,List.take_zero,List.nil_append]
    show gate_Costs_L1 spots band l (k + 1) (out ++ [spots.map (costOf x band)])=_
    rw [costs_L1 hb hs l (k + 1) _ (fun t ht=>h t (List.mem_cons_of_mem _ ht)),List.append_assoc];rfl
theorem costs_eq {tr:List Track} {spots:List Spot} {band time:Int} (h1:tr.length ≤ 32) (h2:spots.length ≤ 32) (hb:0 ≤ band ∧ band ≤ 60000) (ht:Tr time tr) (hs:Sp time spots):gate_Costs tr spots band=(tr.map (fun t=>spots.map (costOf t band)),0):=by
  unfold gate_Costs
  rw [show ((decide ((tr.length:Int) > 32)) || (decide ((spots.length:Int) > 32)))=false by simp;omega,cond_false,costs_L1 hb hs tr 0 [] ht]
  rfl
theorem Pays.ins {miss:Int} {n:Nat} {rows:List (List Int)} {taken:List Bool} {to:List Int} {t:Int} (h:Pays miss rows taken to t):(∀ r ∈ rows,r.length=n) → ∀ k ∈ to,k < (n:Int):=by
  induction h with
  | nil taken=>intro _ k hk;cases hk
  | skip _ ih =>
    intro hr k hk
    rcases List.mem_cons.1 hk with rfl | hk
    · omega
    · exact ih (fun r h=>hr r (List.mem_cons_of_mem _ h)) k hk
  | pick k h1 h2 h3 _ ih =>
    intro hr q hq
    rcases List.mem_cons.1 hq with rfl | hq
    · have:=hr _ (List.mem_cons_self ..);omega
    · exact ih (fun r h=>hr r (List.mem_cons_of_mem _ h)) q hq
theorem chk_L2:∀ (xs:List Int) (k:Nat),(∀ c ∈ xs,-1 ≤ c ∧ c ≤ 1099511627776) → assign_Check_L2 xs k=.inl ()
  | [],_,_=>rfl
  | x :: xs,k,h=>by
    have hx:=h x (List.mem_cons_self ..)
    unfold assign_Check_L2
    rw [show ((decide (x < (-1))) || (decide (x > 1099511627776)))=false by simp;omega,cond_false]
    exact chk_L2 xs (k + 1) fun c hc=>h c (List.mem_cons_of_mem _ hc)
theorem chk_L1 {costs:List (List Int)} {n:Nat} (hn:n ≤ 32) (h0:costs ≠ [] → (costs[0]?.getD []).length=n):∀ (xs:List (List Int)) (k:Nat),(∀ r ∈ xs,r ∈ costs ∧ r.length=n ∧ ∀ c ∈ r,-1 ≤ c ∧ c ≤ 1099511627776) → assign_Check_L1 costs xs k=.inl ()
  | [],_,_=>rfl
  | x :: xs,k,h=>by
    obtain ⟨h1,h2,h3⟩:=h x (List.mem_cons_self ..)
    unfold assign_Check_L1
    rw [show decide ((x.length:Int) > 32)=false by simp;omega,cond_false,h0 (fun e=>by rw [e] at h1;cases h1),h2,show ((n:Int) != (n:Int))=false by simp,cond_false,chk_L2 x 0 h3]
    exact chk_L1 hn h0 xs (k + 1) fun r hr=>h r (List.mem_cons_of_mem _ hr)
theorem best_in {tr:List Track} {spots:List Spot} {band time:Int} {r4:List (List Int) × Int} {r5:List Int × Int × Int} (h1:tr.length ≤ 32) (h2:spots.length ≤ 32) (hb:0 ≤ band ∧ band ≤ 60000) (ht:Tr time tr) (hs:Sp time spots)
    (h4:gate_Costs tr spots band=r4) (h5:assign_Best r4.1 2147483648=r5):r5.1.length=tr.length ∧ ∀ k ∈ r5.1,k < (spots.length:Int):=by
  rw [costs_eq h1 h2 hb ht hs] at h4
  subst h4
  have hrow:∀ r ∈ tr.map (fun t=>spots.map (costOf t band)),r.length=spots.length:=by
    intro r hr
    obtain ⟨t,_,rfl⟩:=List.mem_map.1 hr
    exact List.length_map ..
  have hc:assign_Check (tr.map (fun t=>spots.map (costOf t band))) 2147483648=0:=by
    unfold assign_Check
    rw [show decide (((tr.map (fun t=>spots.map (costOf t band))).length:Int) > 32)=false by rw [List.length_map];simp;omega,cond_false,chk_L1 h2 (fun hne=>?_) _ 0 (fun r hr=>⟨hr,hrow r hr,fun c hc=>?_⟩)]
    · rfl
    · cases hm:tr with
      | nil=>rw [hm] at hne;exact absurd rfl hne
      | cons a b=>simp
    · obtain ⟨t,ht',rfl⟩:=List.mem_map.1 hr
      obtain ⟨s,hs',rfl⟩:=List.mem_map.1 hc
      exact cost_in (ht t ht').1 (hs s hs').1
  obtain ⟨to,e,p⟩:=best_good hc
  rw [e] at h5
  subst h5
  exact ⟨by rw [p.len,List.length_map],p.ins hrow⟩
theorem predict_keep {f:FilterTrack} {t a:Int} (h:(filter_Predict f t a).2=0):(filter_Predict f t a).1.Track.Time=t ∧ (filter_Predict f t a).1.Track.ID=f.Track.ID:=by
  unfold filter_Predict at h ⊢
  simp only [ite_of_cond] at h ⊢
  by_cases h1:(filter_Check f != 0)=true
  · rw [if_pos h1] at h;simp at h h1;exact absurd h h1
  · rw [if_neg h1] at h ⊢
    have hc:f.In:=check_iff.1 (by simpa using h1)
    have hct:=hc.1.1
    by_cases h2:filter_out t 0 200000=true
    · rw [if_pos h2] at h;cases h
    · rw [if_neg h2] at h ⊢
      have ht:0 ≤ t ∧ t ≤ 200000:=by rw [out_filter] at h2;simpa using h2
      by_cases h3:filter_out a 0 20=true
      · rw [if_pos h3] at h;cases h
      · rw [if_neg h3] at h ⊢
        by_cases h4:filter_out (w64 (t - f.Track.Time)) 0 600=true
        · rw [if_pos h4] at h;cases h
        · rw [if_neg h4] at h ⊢
          by_cases h5:(w64 (t - f.Track.Time) == 0)=true
          · rw [if_pos h5]
            have h6:w64 (t - f.Track.Time)=0:=by simpa using h5
            rw [w64_id (by omega)] at h6
            exact ⟨by show f.Track.Time=t;omega,rfl⟩
          · rw [if_neg h5] at h ⊢
            split at h
            · cases h
            · rename_i h6;rw [if_neg h6];exact ⟨rfl,rfl⟩
theorem confirm_L1 (t:Tracker):∀ (xs:List followed) (k:Nat) (out:List followed),(tracker_Tracker_confirm_L1 t xs k out).length ≤ out.length + xs.length
  | [],_,out=>by show out.length ≤ _;simp
  | x :: xs,k,out=>by
    unfold tracker_Tracker_confirm_L1
    have h:∀ o:List followed,o.length ≤ out.length + 1 → (tracker_Tracker_confirm_L1 t xs (k + 1) o).length ≤ out.length + (x :: xs).length:=fun o ho=>by
      have:=confirm_L1 t xs (k + 1) o
      rw [List.length_cons];omega
    simp only [ite_of_cond]
    split
    · split
      · exact h _ (by omega)
      · split
        · exact h _ (by simp)
        · exact h _ (by simp)
    · exact h _ (by simp)
theorem confirm_len {t r:Tracker} (hr:tracker_Tracker_confirm t=r):r.all.length ≤ t.all.length:=by
  subst hr
  have:=confirm_L1 t t.all 0 []
  simpa [tracker_Tracker_confirm,bindv] using this
end Go.Sky
end
