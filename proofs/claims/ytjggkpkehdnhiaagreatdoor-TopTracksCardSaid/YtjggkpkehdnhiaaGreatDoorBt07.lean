/- Lemmas toward the given statement (part 7 of 22): Va Vb. Each theorem states its own conditions; nothing is assumed beyond them. -/
import Derived.Test.YtjggkpkehdnhiaaGreatDoorRows
import Derived.Test.YtjggkpkehdnhiaaGreatDoorBt02
import Derived.Test.YtjggkpkehdnhiaaGreatDoorBt03
section
namespace Go.Sky
open Go Go.Eng Go.Proofs
def Xs:List Int → Nat → ((Unit) ⊕ (Int))
  | [],_=>.inl ()
  | x_2 :: xs,k_2=>cond ((decide (x_2 < (-1))) || (decide (x_2 > 1099511627776))) (
      .inr 4) (
      Xs xs (k_2 + 1))
def Xt (costs:List (List Int)):List (List Int) → Nat → ((Unit) ⊕ (Int))
  | [],_=>.inl ()
  | x :: xs,k=>cond (decide ((x.length:Int) > 32)) (
      .inr 2) (
      cond ((x.length:Int) != ((costs[0]?.getD []).length:Int)) (
        .inr 3) (
        Sum.elim (fun _ =>
          Xt costs xs (k + 1)) (fun r=>.inr r) (Xs x 0)))
def Ya (costs:List (List Int)) (miss:Int):Int :=
  cond (decide ((costs.length:Int) > 32)) (
    2) (
    Sum.elim (fun _ =>
      cond ((decide (miss < 0)) || (decide (miss > 1099511627776))) (
        4) (
        0)) (fun r=>r) (Xt costs costs 0))
set_option maxHeartbeats 4000000 in
set_option maxRecDepth 100000 in
theorem WT (A_costs:Option Addr) (c_costs:Nat) (costs:List (List Int)) (o_costs:List (Sl Int)) (miss:Int) (w:World) (h_costs:Rd w 1 A_costs (o_costs.map Sl.c)) (_hc_costs:costs.length ≤ c_costs) (hd_costs:∀ s ∈ o_costs,s.rd w 1 ic) (he_costs:costs=o_costs.map Sl.l):Calls Tryz.prog 153 #[.slice A_costs costs.length c_costs,.int .i64 miss] w (Ret w (.int .i64 (Ya costs miss))):=by
  have s_costs:=h_costs.short;rw [← JA he_costs] at s_costs
  refine Zk (vs:=[.slice A_costs costs.length c_costs,.i miss]) (w:=w) Tryz.func153 rfl Tryz.ntmps153 rfl (TC.sr (TL.r 1 [] [(4,.i 0)] {} (TL.ns (TC.sr (TL.r 3 [] [(11,.b (decide ((costs.length:Int) > 32)))] {} (TL.next rfl (TC.cond (decide ((costs.length:Int) > 32)) rfl Kr (fun h1=>?_) (fun h1=>?_))))))))
  · exact TC.sr (TL.r 1 [] [(4,.i 2)] {} (TL.next rfl (TC.ret (TE.rt (TE.ret [] (.i 2) {} (by unfold Ya;refine eS (fun z=>(.i z:Value)) ?_;exact Zi h1 (rfl)))))))
  · have q1_0:=(Zo h1)
    refine TC.sn (TC.seq (TC.sr (TL.r 3 [] [(12,.slice A_costs costs.length c_costs),(13,.i (costs.length:Int)),(14,.i 0)] {} (TL.next rfl ?_))))
    obtain ⟨R1,hR⟩:∃ R,R=Xt costs costs 0:=⟨_,rfl⟩
    refine TC.cut (S:=Unit) (fun (_:Unit)=>[(1,.i miss)]) (fun (_:Unit)=>[]) (fun (_:Unit)=>R1=.inl ()) ?_ ?_
    · refine TC.block (TC.lw (X:=Nat) (fun k=>[(0,.slice A_costs costs.length c_costs),(1,.i miss),(12,.slice A_costs costs.length c_costs),(13,.i (costs.length:Int)),(14,.i (k:Int))]) (fun k=>[]) (fun k=>costs.length - k) (fun k=>k ≤ costs.length ∧ R1=Xt costs (costs.drop k) k) ?_ 0 ⟨Nat.zero_le _,hR⟩ Kr (sb 0))
      rintro k ⟨hk,hI⟩
      refine TC.sr (TL.r 1 [] [(15,.b (decide ((k:Int) < (costs.length:Int))))] {} (TL.ns (TC.cond (decide ((k:Int) < (costs.length:Int))) rfl Kr (fun h2=>?_) (fun h2=>?_))))
      · have hlt:=ltN h2
        obtain ⟨x,hx⟩:=elN hlt
        have hd:=drop_at hx
        refine TC.sn (TC.seq (TC.block (TC.sr (TL.v (sV (Instr.indexAt 132 (.slice A_costs costs.length c_costs) (.i (k:Int)))) 16 (.pointer (some (Ix A_costs (k * 1)))) (fun w hM=>Zr (h_costs.sat hM) (JA he_costs) Kr sd sd) {} ?_))))
        have s_s1:=(Jv (Q7 hd_costs k) (KA he_costs hx)).short;rw [List.length_map] at s_s1
        refine TL.v (sV (Instr.loadAt 22 (.pointer (some (Ix A_costs (k * 1)))))) 17 (.slice ((o_costs[k]?.getD Sl.zero).A) x.length ((o_costs[k]?.getD Sl.zero).cap)) (fun w hM=>(by have h:=Zs (P:=Tryz.prog) (T:=22) (off:=0) (i:=k) (.slice (o_costs[k]?.getD Sl.zero).A (o_costs[k]?.getD Sl.zero).l.length (o_costs[k]?.getD Sl.zero).cap) (h_costs.sat hM) (ZA (getD_at _ _ Sl.zero (GY he_costs (List.getElem?_eq_some_iff.1 hx).1))) Kr Kr;rw [(KA he_costs hx)] at h;exact h)) {} ?_
        refine TL.r 3 [] [(6,.slice ((o_costs[k]?.getD Sl.zero).A) x.length ((o_costs[k]?.getD Sl.zero).cap))] {} (TL.ns (TC.block (TC.sr (TL.r 4 [] [(18,.b (decide ((x.length:Int) > 32)))] {} (TL.next rfl (TC.cond (decide ((x.length:Int) > 32)) rfl Kr (fun h3=>?_) (fun h3=>?_)))))))
        · refine TC.sr (TL.r 1 [] [(4,.i 2)] {} (TL.next rfl (TC.ret (TE.rb (TE.rt (TE.rb (TE.rt (TE.rt (TE.rb (TE.rt (TE.rt ?_)))))))))))
          exact TE.ret [] (.i 2) {} (by unfold Ya;refine eS (fun z=>(.i z:Value)) ?_;exact Zb h1 (X7 (hR.symm.trans (hI.trans (by rw [hd];exact Zi h3 (rfl)))) rfl))
        · have q3_0:=(Zo h3)
          refine TC.sr (TL.r 3 [] [(24,.i (x.length:Int)),(25,.slice A_costs costs.length c_costs)] {} (TL.v (sV (Instr.indexAt 132 (.slice A_costs costs.length c_costs) (.i 0))) 26 (.pointer (some (Ix A_costs (0 * 1)))) (fun w hM=>Zr (h_costs.sat hM) (JA he_costs) Kr sd sd) {} ?_))
          have s_s2:=(Jv (Q7 hd_costs 0) (J1 he_costs 0)).short;rw [List.length_map] at s_s2
          refine TL.v (sV (Instr.loadAt 22 (.pointer (some (Ix A_costs (0 * 1)))))) 27 (.slice ((o_costs[0]?.getD Sl.zero).A) ((costs[0]?.getD []).length) ((o_costs[0]?.getD Sl.zero).cap)) (fun w hM=>(by have h:=Zs (P:=Tryz.prog) (T:=22) (off:=0) (i:=0) (.slice (o_costs[0]?.getD Sl.zero).A (o_costs[0]?.getD Sl.zero).l.length (o_costs[0]?.getD Sl.zero).cap) (h_costs.sat hM) (ZA (getD_at _ _ Sl.zero (GY he_costs sd))) Kr Kr;rw [(J1 he_costs 0)] at h;exact h)) {} (TL.r 8 [] [(22,.b ((x.length:Int) != ((costs[0]?.getD []).length:Int)))] {} (TL.next rfl (TC.cond ((x.length:Int) != ((costs[0]?.getD []).length:Int)) rfl Kr (fun h4=>?_) (fun h4=>?_))))
          · refine TC.sr (TL.r 1 [] [(4,.i 3)] {} (TL.next rfl (TC.ret (TE.rb (TE.rt (TE.rb (TE.rt (TE.rt (TE.rb (TE.rt (TE.rt ?_)))))))))))
            exact TE.ret [] (.i 3) {} (by unfold Ya;refine eS (fun z=>(.i z:Value)) ?_;exact Zb h1 (X7 (hR.symm.trans (hI.trans (by rw [hd];exact Zb h3 (Zi h4 (rfl))))) rfl))
          · have q4_0:=(QG h4)
            refine TC.skip (TE.nb (TE.nr (TL.r 3 [] [(30,.slice ((o_costs[k]?.getD Sl.zero).A) x.length ((o_costs[k]?.getD Sl.zero).cap)),(31,.i (x.length:Int)),(32,.i 0)] {} (TL.next rfl ?_))))
            obtain ⟨R2,hR_2⟩:∃ R,R=Xs x 0:=⟨_,rfl⟩
            refine TC.cut (S:=Unit) (fun (_:Unit)=>[(0,.slice A_costs costs.length c_costs),(1,.i miss),(12,.slice A_costs costs.length c_costs),(13,.i (costs.length:Int)),(14,.i (k:Int))]) (fun (_:Unit)=>[]) (fun (_:Unit)=>R2=.inl ()) ?_ ?_
            · refine TC.block (TC.lw (X:=Nat) (fun k_2=>[(0,.slice A_costs costs.length c_costs),(1,.i miss),(12,.slice A_costs costs.length c_costs),(13,.i (costs.length:Int)),(14,.i (k:Int)),(30,.slice ((o_costs[k]?.getD Sl.zero).A) x.length ((o_costs[k]?.getD Sl.zero).cap)),(31,.i (x.length:Int)),(32,.i (k_2:Int))]) (fun k_2=>[]) (fun k_2=>x.length - k_2) (fun k_2=>k_2 ≤ x.length ∧ R2=Xs (x.drop k_2) k_2) ?_ 0 ⟨Nat.zero_le _,hR_2⟩ Kr (sb 0))
              rintro k_2 ⟨hk_2,hI_2⟩
              refine TC.sr (TL.r 1 [] [(33,.b (decide ((k_2:Int) < (x.length:Int))))] {} (TL.ns (TC.cond (decide ((k_2:Int) < (x.length:Int))) rfl Kr (fun h5=>?_) (fun h5=>?_))))
              · have hlt_2:=ltN h5
                obtain ⟨x_2,hx_2⟩:=elN hlt_2
                have hd_2:=drop_at hx_2
                refine TC.sn (TC.seq (TC.block (TC.sr (TL.v (sV (Instr.indexAt 22 (.slice ((o_costs[k]?.getD Sl.zero).A) x.length ((o_costs[k]?.getD Sl.zero).cap)) (.i (k_2:Int)))) 34 (.pointer (some ((((o_costs[k]?.getD Sl.zero).A).getD Yb).add (k_2 * 1)))) (fun w hM=>Zr (Jv ((Q7 hd_costs k).sat hM) (KA he_costs hx)) (by simp) Kr sd sd) {} (TL.v (sV (Instr.loadAt 3 (.pointer (some ((((o_costs[k]?.getD Sl.zero).A).getD Yb).add (k_2 * 1)))))) 35 (.i x_2) (fun w hM=>Zs (off:=0) (i:=k_2) (.i x_2) (Jv ((Q7 hd_costs k).sat hM) (KA he_costs hx)) (ZA hx_2) Kr Kr) {} (TL.r 3 [] [(8,.i x_2)] {} (TL.nr (TL.r 3 [] [(38,.b (decide (x_2 < (-1))))] {} (TL.j 38 (decide (x_2 < (-1))) 6 [] [] (fun β=>[(41,.b (β || (decide (x_2 > 1099511627776))))]) Kr {} {} (TL.next rfl (TC.cond ((decide (x_2 < (-1))) || (decide (x_2 > 1099511627776))) rfl Kr (fun h6=>?_) (fun h6=>?_))))))))))))
                · refine TC.sr (TL.r 1 [] [(4,.i 4)] {} (TL.next rfl (TC.ret (TE.rb (TE.rt (TE.rt (TE.rb (TE.rt (TE.rb (TE.rt (TE.rt (TE.rb (TE.rt (TE.rt ?_))))))))))))))
                  exact TE.ret [] (.i 4) {} (by unfold Ya;refine eS (fun z=>(.i z:Value)) ?_;exact Zb h1 (X7 (hR.symm.trans (hI.trans (by rw [hd];exact Zb h3 (Zb h4 (X7 (hR_2.symm.trans (hI_2.trans (by rw [hd_2];exact Zi h6 (rfl)))) rfl))))) rfl))
                · have q6_0:=(Zo (Zt h6))
                  have q6_1:=(Zo (ZR h6))
                  exact TC.skip (TE.nb (TE.next (TC.region (TL.r 2 [] [(32,.i (w64 ((k_2:Int) + 1)))] {} (TL.done rfl (TE.rw 32 (.i (w64 ((k_2:Int) + 1))) (.i ((k_2 + 1:Nat):Int)) Kr (ZD k_2 (by omega)) (TE.again (x:=k_2) (k_2 + 1) ⟨by omega,hI_2.trans (by rw [hd_2];exact Zb h6 (rfl))⟩ (mN hlt_2) Kr (sb 0))))))))
              · have hd_2:=XL h5
                refine TC.exit (TE.et (TE.et (TE.exit_same ?_)))
                exact TE.cut () (hI_2.trans (by rw [hd_2];exact rfl)) Kr (sb 0)
            · intro _ hJ_2
              exact TE.nb (TE.next (TC.region (TL.r 2 [] [(14,.i (w64 ((k:Int) + 1)))] {} (TL.done rfl (TE.rw 14 (.i (w64 ((k:Int) + 1))) (.i ((k + 1:Nat):Int)) Kr (ZD k (by omega)) (TE.again (x:=k) (k + 1) ⟨by omega,hI.trans (by rw [hd];exact Zb h3 (Zb h4 (XI (hR_2.symm.trans hJ_2) (rfl))))⟩ (mN hlt) Kr (sb 0)))))))
      · have hd:=XL h2
        refine TC.exit (TE.et (TE.et (TE.exit_same ?_)))
        exact TE.cut () (hI.trans (by rw [hd];exact rfl)) Kr (sb 0)
    · intro _ hJ
      refine TE.next (TC.seq (TC.sr (TL.r 3 [] [(46,.b (decide (miss < 0)))] {} (TL.j 46 (decide (miss < 0)) 6 [] [] (fun β=>[(49,.b (β || (decide (miss > 1099511627776))))]) Kr {} {} (TL.next rfl (TC.cond ((decide (miss < 0)) || (decide (miss > 1099511627776))) rfl Kr (fun h7=>?_) (fun h7=>?_)))))))
      · exact TC.sr (TL.r 1 [] [(4,.i 4)] {} (TL.next rfl (TC.ret (TE.rt (TE.ret [] (.i 4) {} (by unfold Ya;refine eS (fun z=>(.i z:Value)) ?_;exact Zb h1 (XI (hR.symm.trans hJ) (Zi h7 (rfl)))))))))
      · exact TC.snr (TL.r 1 [] [(4,.i 0)] {} (TL.next rfl (TC.ret (TE.ret [] (.i 0) {} (by unfold Ya;refine eS (fun z=>(.i z:Value)) ?_;exact Zb h1 (XI (hR.symm.trans hJ) (Zb h7 (rfl))))))))
def XO (costs:List (List Int)):Int :=
  cond ((costs.length:Int) == 0) (
    0) (
    ((costs[0]?.getD []).length:Int))
set_option maxRecDepth 100000 in
theorem VU (A_costs:Option Addr) (c_costs:Nat) (costs:List (List Int)) (o_costs:List (Sl Int)) (w:World) (h_costs:Rd w 1 A_costs (o_costs.map Sl.c)) (_hc_costs:costs.length ≤ c_costs) (hd_costs:∀ s ∈ o_costs,s.rd w 1 ic) (he_costs:costs=o_costs.map Sl.l):Calls Tryz.prog 109 #[.slice A_costs costs.length c_costs] w (Ret w (.int .i64 (XO costs))):=by
  have s_costs:=h_costs.short;rw [← JA he_costs] at s_costs
  refine Zk (vs:=[.slice A_costs costs.length c_costs]) (w:=w) Tryz.func109 rfl Tryz.ntmps109 rfl (TC.sr (TL.r 1 [] [(2,.i 0)] {} (TL.ns (TC.sr (TL.r 3 [] [(5,.b ((costs.length:Int) == 0))] {} (TL.next rfl (TC.cond ((costs.length:Int) == 0) rfl Kr (fun h1=>?_) (fun h1=>?_))))))))
  · exact TC.sr (TL.r 1 [] [(2,.i 0)] {} (TL.next rfl (TC.ret (TE.rt (TE.ret [] (.i 0) {} (by unfold XO;refine eS (fun z=>(.i z:Value)) ?_;exact Zi h1 (rfl)))))))
  · have q1_0:=(ZN h1)
    refine TC.snr (TL.r 1 [] [(6,.slice A_costs costs.length c_costs)] {} (TL.v (sV (Instr.indexAt 132 (.slice A_costs costs.length c_costs) (.i 0))) 7 (.pointer (some (Ix A_costs (0 * 1)))) (fun w hM=>Zr (h_costs.sat hM) (JA he_costs) Kr sd sd) {} ?_))
    have s_s1:=(Jv (Q7 hd_costs 0) (J1 he_costs 0)).short;rw [List.length_map] at s_s1
    exact TL.v (sV (Instr.loadAt 22 (.pointer (some (Ix A_costs (0 * 1)))))) 8 (.slice ((o_costs[0]?.getD Sl.zero).A) ((costs[0]?.getD []).length) ((o_costs[0]?.getD Sl.zero).cap)) (fun w hM=>(by have h:=Zs (P:=Tryz.prog) (T:=22) (off:=0) (i:=0) (.slice (o_costs[0]?.getD Sl.zero).A (o_costs[0]?.getD Sl.zero).l.length (o_costs[0]?.getD Sl.zero).cap) (h_costs.sat hM) (ZA (getD_at _ _ Sl.zero (GY he_costs sd))) Kr Kr;rw [(J1 he_costs 0)] at h;exact h)) {} (TL.r 5 [] [(2,.i ((costs[0]?.getD []).length:Int))] {} (TL.next rfl (TC.ret (TE.ret [] (.i ((costs[0]?.getD []).length:Int)) {} (by unfold XO;refine eS (fun z=>(.i z:Value)) ?_;exact Zb h1 (rfl))))))
def Ys (i:Int) (k:Int) (x:Int) (x_2:Int) (x_3:List Bool) (x_4:List (List Int)):Int :=
  cond (decide (k ≥ x)) (
    cond ((w64 (k - x)) == i) (
      x_2) (
      36028797018963968)) (
    cond ((x_3[k.toNat]?.getD false)) (
      36028797018963968) (
      cond (decide (((x_4[i.toNat]?.getD [])[k.toNat]?.getD 0) < 0)) (
        36028797018963968) (
        ((x_4[i.toNat]?.getD [])[k.toNat]?.getD 0))))
theorem QR {rows:List (List Int)} {c:Int} (h:∀ r ∈ rows,(r.length:Int)=c) {i:Nat} (hi:i < rows.length):((rows[i]?.getD []).length:Int)=c:=by
  rw [List.getElem?_eq_getElem hi];exact h _ (List.getElem_mem hi)
set_option maxRecDepth 100000 in
theorem Vn (i:Int) (k:Int) (a_x:Addr) (x:Int) (a_x_2:Addr) (x_2:Int) (a_x_3:Addr) (A_x_3:Option Addr) (c_x_3:Nat) (x_3:List Bool) (a_x_4:Addr) (A_x_4:Option Addr) (c_x_4:Nat) (x_4:List (List Int)) (o_x_4:List (Sl Int)) (w:World) (h_x:Rd w 1 (some a_x) [ic x]) (h_x_2:Rd w 1 (some a_x_2) [ic x_2]) (h_x_3:Rd w 1 (some a_x_3) [Sl.c (⟨A_x_3,c_x_3,x_3⟩:Sl Bool)]) (hd_x_3:(⟨A_x_3,c_x_3,x_3⟩:Sl Bool).rd w 1 bc) (h_x_4:Rd w 1 (some a_x_4) [#[.slice A_x_4 x_4.length c_x_4]]) (hr_x_4:Rd w 1 A_x_4 (o_x_4.map Sl.c)) (_hl_x_4:x_4.length ≤ c_x_4) (hp_x_4:∀ s ∈ o_x_4,s.rd w 1 ic) (he_x_4:x_4=o_x_4.map Sl.l) (hp:(0 ≤ i ∧ i < (x_4.length:Int)) ∧ (0 ≤ k ∧ k < 4611686018427387904) ∧ (0 ≤ x ∧ x < 4611686018427387904) ∧ (x_3.length:Int)=x ∧ ∀ r ∈ x_4,(r.length:Int)=x):Calls Tryz.prog 154 #[.int .i64 i,.int .i64 k,.pointer (some a_x),.pointer (some a_x_2),.pointer (some a_x_3),.pointer (some a_x_4)] w (Ret w (.int .i64 (Ys i k x x_2 x_3 x_4))):=by
  refine Zk (vs:=[.i i,.i k,.pointer (some a_x),.pointer (some a_x_2),.pointer (some a_x_3),.pointer (some a_x_4)]) (w:=w) Tryz.func154 rfl Tryz.ntmps154 rfl (TC.sr (TL.r 1 [] [(8,.i 0)] {} (TL.ns (TC.block (TC.sr (TL.r 1 [] [(10,.i k)] {} (TL.v (sV (Instr.loadAt 3 (.pointer (some a_x)))) 11 (.i x) (fun w hM=>Zs (off:=0) (.i x) (h_x.sat hM) (X9 _) Kr Kr) {} (TL.r 4 [] [(9,.b (decide (k ≥ x)))] {} (TL.next rfl (TC.cond (decide (k ≥ x)) rfl Kr (fun h1=>?_) (fun h1=>?_)))))))))))
  · refine TC.seq (TC.sr (TL.r 1 [] [(13,.i k)] {} (TL.v (sV (Instr.loadAt 3 (.pointer (some a_x)))) 14 (.i x) (fun w hM=>Zs (off:=0) (.i x) (h_x.sat hM) (X9 _) Kr Kr) {} (TL.r 5 [] [(17,.b ((w64 (k - x)) == i))] {} (TL.next rfl (TC.cond ((w64 (k - x)) == i) rfl Kr (fun h2=>?_) (fun h2=>?_)))))))
    · refine TC.sr (TL.v (sV (Instr.loadAt 3 (.pointer (some a_x_2)))) 18 (.i x_2) (fun w hM=>Zs (off:=0) (.i x_2) (h_x_2.sat hM) (X9 _) Kr Kr) {} (TL.r 2 [] [(8,.i x_2)] {} (TL.next rfl (TC.ret (TE.rt (TE.rb (TE.rt ?_)))))))
      exact TE.ret [] (.i x_2) {} (by unfold Ys;refine eS (fun z=>(.i z:Value)) ?_;exact Zi h1 (Zi h2 (rfl)))
    · refine TC.snr (TL.r 1 [] [(8,.i 36028797018963968)] {} (TL.next rfl (TC.ret (TE.rb (TE.rt ?_)))))
      exact TE.ret [] (.i 36028797018963968) {} (by unfold Ys;refine eS (fun z=>(.i z:Value)) ?_;exact Zi h1 (Zb h2 (rfl)))
  · have q1_0:=(Zo h1)
    refine TC.sr (TL.v (sV (Instr.loadAt 137 (.pointer (some a_x_3)))) 20 (.slice A_x_3 x_3.length c_x_3) (fun w hM=>Zs (off:=0) (.slice A_x_3 x_3.length c_x_3) (h_x_3.sat hM) (X9 _) Kr Kr) {} (TL.r 2 [] [(21,.i k)] {} (TL.v (sV (Instr.indexAt 137 (.slice A_x_3 x_3.length c_x_3) (.i k))) 22 (.pointer (some (Ix A_x_3 (k.toNat * 1)))) (fun w hM=>Zr (hd_x_3.rd.sat hM) (by simp) Kr (by (try have kr_:=QR hp.2.2.2.2 (i:=i.toNat) (by omega));exact sd) (by (try have kr_:=QR hp.2.2.2.2 (i:=i.toNat) (by omega));exact sd)) {} (TL.v (sV (Instr.loadAt 4 (.pointer (some (Ix A_x_3 (k.toNat * 1)))))) 23 (.b ((x_3[k.toNat]?.getD false))) (fun w hM=>Zs (off:=0) (i:=k.toNat) (.b ((x_3[k.toNat]?.getD false))) (hd_x_3.rd.sat hM) (ZA (getD_at _ _ false (by (try have kr_:=QR hp.2.2.2.2 (i:=i.toNat) (by omega));exact sd))) Kr Kr) {} (TL.r 5 [] [(24,.b ((x_3[k.toNat]?.getD false)))] {} (TL.split 24 ((x_3[k.toNat]?.getD false)) Kr (fun h3=>?_) (fun h3=>?_)))))))
    · refine TL.r 15 [] [(19,.b true)] {} (TL.next rfl (TC.condT rfl Kr (TC.sr (TL.r 1 [] [(8,.i 36028797018963968)] {} (TL.next rfl (TC.ret (TE.rb (TE.rt ?_))))))))
      exact TE.ret [] (.i 36028797018963968) {} (by unfold Ys;refine eS (fun z=>(.i z:Value)) ?_;exact Zb h1 (Zi h3 (rfl)))
    · refine TL.v (sV (Instr.loadAt 132 (.pointer (some a_x_4)))) 25 (.slice A_x_4 x_4.length c_x_4) (fun w hM=>(by have h:=Zs (P:=Tryz.prog) (T:=132) (off:=0) (i:=0) (A:=some a_x_4) (.slice A_x_4 x_4.length c_x_4) (h_x_4.sat hM) (X9 _) Kr Kr;exact h)) {} (TL.r 7 [] [(26,.i i)] {} (TL.v (sV (Instr.indexAt 132 (.slice A_x_4 x_4.length c_x_4) (.i i))) 27 (.pointer (some (Ix A_x_4 (i.toNat * 1)))) (fun w hM=>Zr (hr_x_4.sat hM) (JA he_x_4) Kr (by (try have kr_:=QR hp.2.2.2.2 (i:=i.toNat) (by omega));exact sd) (by (try have kr_:=QR hp.2.2.2.2 (i:=i.toNat) (by omega));exact sd)) {} ?_))
      have s_s1:=(Jv (Q7 hp_x_4 i.toNat) (J1 he_x_4 i.toNat)).short;rw [List.length_map] at s_s1
      refine TL.v (sV (Instr.loadAt 22 (.pointer (some (Ix A_x_4 (i.toNat * 1)))))) 28 (.slice ((o_x_4[i.toNat]?.getD Sl.zero).A) ((x_4[i.toNat]?.getD []).length) ((o_x_4[i.toNat]?.getD Sl.zero).cap)) (fun w hM=>(by have h:=Zs (P:=Tryz.prog) (T:=22) (off:=0) (i:=i.toNat) (.slice (o_x_4[i.toNat]?.getD Sl.zero).A (o_x_4[i.toNat]?.getD Sl.zero).l.length (o_x_4[i.toNat]?.getD Sl.zero).cap) (hr_x_4.sat hM) (ZA (getD_at _ _ Sl.zero (GY he_x_4 (by (try have kr_:=QR hp.2.2.2.2 (i:=i.toNat) (by omega));exact sd)))) Kr Kr;rw [(J1 he_x_4 i.toNat)] at h;exact h)) {} (TL.r 10 [] [(29,.i k)] {} (TL.v (sV (Instr.indexAt 22 (.slice ((o_x_4[i.toNat]?.getD Sl.zero).A) ((x_4[i.toNat]?.getD []).length) ((o_x_4[i.toNat]?.getD Sl.zero).cap)) (.i k))) 30 (.pointer (some ((((o_x_4[i.toNat]?.getD Sl.zero).A).getD Yb).add (k.toNat * 1)))) (fun w hM=>Zr (Jv ((Q7 hp_x_4 i.toNat).sat hM) (J1 he_x_4 i.toNat)) (by simp) Kr (by (try have kr_:=QR hp.2.2.2.2 (i:=i.toNat) (by omega));exact sd) (by (try have kr_:=QR hp.2.2.2.2 (i:=i.toNat) (by omega));exact sd)) {} (TL.v (sV (Instr.loadAt 3 (.pointer (some ((((o_x_4[i.toNat]?.getD Sl.zero).A).getD Yb).add (k.toNat * 1)))))) 31 (.i ((x_4[i.toNat]?.getD [])[k.toNat]?.getD 0)) (fun w hM=>Zs (off:=0) (i:=k.toNat) (.i ((x_4[i.toNat]?.getD [])[k.toNat]?.getD 0)) (Jv ((Q7 hp_x_4 i.toNat).sat hM) (J1 he_x_4 i.toNat)) (ZA (getD_at _ _ 0 (by (try have kr_:=QR hp.2.2.2.2 (i:=i.toNat) (by omega));exact sd))) Kr Kr) {} (TL.r 15 [] [(19,.b (decide (((x_4[i.toNat]?.getD [])[k.toNat]?.getD 0) < 0)))] {} (TL.next rfl (TC.cond (decide (((x_4[i.toNat]?.getD [])[k.toNat]?.getD 0) < 0)) rfl Kr (fun h4=>?_) (fun h4=>?_)))))))
      · refine TC.sr (TL.r 1 [] [(8,.i 36028797018963968)] {} (TL.next rfl (TC.ret (TE.rb (TE.rt ?_)))))
        exact TE.ret [] (.i 36028797018963968) {} (by unfold Ys;refine eS (fun z=>(.i z:Value)) ?_;exact Zb h1 (Zb h3 (Zi h4 (rfl))))
      · have q4_0:=(Zo h4)
        refine TC.skip (TE.nb (TE.nr (TL.v (sV (Instr.loadAt 132 (.pointer (some a_x_4)))) 34 (.slice A_x_4 x_4.length c_x_4) (fun w hM=>(by have h:=Zs (P:=Tryz.prog) (T:=132) (off:=0) (i:=0) (A:=some a_x_4) (.slice A_x_4 x_4.length c_x_4) (h_x_4.sat hM) (X9 _) Kr Kr;exact h)) {} (TL.r 2 [] [(35,.i i)] {} (TL.v (sV (Instr.indexAt 132 (.slice A_x_4 x_4.length c_x_4) (.i i))) 36 (.pointer (some (Ix A_x_4 (i.toNat * 1)))) (fun w hM=>Zr (hr_x_4.sat hM) (JA he_x_4) Kr (by (try have kr_:=QR hp.2.2.2.2 (i:=i.toNat) (by omega));exact sd) (by (try have kr_:=QR hp.2.2.2.2 (i:=i.toNat) (by omega));exact sd)) {} ?_)))))
        have s_s2:=(Jv (Q7 hp_x_4 i.toNat) (J1 he_x_4 i.toNat)).short;rw [List.length_map] at s_s2
        exact TL.v (sV (Instr.loadAt 22 (.pointer (some (Ix A_x_4 (i.toNat * 1)))))) 37 (.slice ((o_x_4[i.toNat]?.getD Sl.zero).A) ((x_4[i.toNat]?.getD []).length) ((o_x_4[i.toNat]?.getD Sl.zero).cap)) (fun w hM=>(by have h:=Zs (P:=Tryz.prog) (T:=22) (off:=0) (i:=i.toNat) (.slice (o_x_4[i.toNat]?.getD Sl.zero).A (o_x_4[i.toNat]?.getD Sl.zero).l.length (o_x_4[i.toNat]?.getD Sl.zero).cap) (hr_x_4.sat hM) (ZA (getD_at _ _ Sl.zero (GY he_x_4 (by (try have kr_:=QR hp.2.2.2.2 (i:=i.toNat) (by omega));exact sd)))) Kr Kr;rw [(J1 he_x_4 i.toNat)] at h;exact h)) {} (TL.r 5 [] [(38,.i k)] {} (TL.v (sV (Instr.indexAt 22 (.slice ((o_x_4[i.toNat]?.getD Sl.zero).A) ((x_4[i.toNat]?.getD []).length) ((o_x_4[i.toNat]?.getD Sl.zero).cap)) (.i k))) 39 (.pointer (some ((((o_x_4[i.toNat]?.getD Sl.zero).A).getD Yb).add (k.toNat * 1)))) (fun w hM=>Zr (Jv ((Q7 hp_x_4 i.toNat).sat hM) (J1 he_x_4 i.toNat)) (by simp) Kr (by (try have kr_:=QR hp.2.2.2.2 (i:=i.toNat) (by omega));exact sd) (by (try have kr_:=QR hp.2.2.2.2 (i:=i.toNat) (by omega));exact sd)) {} (TL.v (sV (Instr.loadAt 3 (.pointer (some ((((o_x_4[i.toNat]?.getD Sl.zero).A).getD Yb).add (k.toNat * 1)))))) 40 (.i ((x_4[i.toNat]?.getD [])[k.toNat]?.getD 0)) (fun w hM=>Zs (off:=0) (i:=k.toNat) (.i ((x_4[i.toNat]?.getD [])[k.toNat]?.getD 0)) (Jv ((Q7 hp_x_4 i.toNat).sat hM) (J1 he_x_4 i.toNat)) (ZA (getD_at _ _ 0 (by (try have kr_:=QR hp.2.2.2.2 (i:=i.toNat) (by omega));exact sd))) Kr Kr) {} (TL.r 8 [] [(8,.i ((x_4[i.toNat]?.getD [])[k.toNat]?.getD 0))] {} (TL.next rfl (TC.ret (TE.ret [] (.i ((x_4[i.toNat]?.getD [])[k.toNat]?.getD 0)) {} (by unfold Ys;refine eS (fun z=>(.i z:Value)) ?_;exact Zb h1 (Zb h3 (Zb h4 (rfl)))))))))))
end Go.Sky
end
section
namespace Go.Sky
open Go Go.Eng Go.Proofs
def YF:Nat → Nat → (List Int) → (List Int)
  | 0,_,low=>low
  | m + 1,k_2,low=>YF m (k_2 + 1) (low.set k_2 1152921504606846976)
def Yz (costs:List (List Int)) (miss:Int) (from_:Int) (taken:List Bool) (k:Nat) (row:List Int) (at_:Int) (u_3:List Int) (v_3:List Int) (used:List Bool):Nat → Nat → Int → Int → (List Int) → (List Int) → (Int × Int × List Int × List Int)
  | 0,_,delta,next,way_5,low_5=>(delta,next,way_5,low_5)
  | m + 1,k_3,delta,next,way_5,low_5=>cond (((used.set at_.toNat true)[(1 + (k_3:Int)).toNat]?.getD false)) (
      Yz costs miss from_ taken k row at_ u_3 v_3 used m (k_3 + 1) delta next way_5 low_5) (
      let r3:=Ys (w64 (((row.set 0 (1 + (k:Int)))[at_.toNat]?.getD 0) - 1)) (w64 ((1 + (k_3:Int)) - 1)) (((costs.drop from_.toNat)[0]?.getD []).length:Int) miss taken (costs.drop from_.toNat)
      Y3 (cond (decide ((w64 ((w64 (r3 - (u_3[((row.set 0 (1 + (k:Int)))[at_.toNat]?.getD 0).toNat]?.getD 0))) - (v_3[(1 + (k_3:Int)).toNat]?.getD 0))) < (low_5[(1 + (k_3:Int)).toNat]?.getD 0))) (
                        ((way_5.set ((1 + (k_3:Int)).toNat) at_),(low_5.set ((1 + (k_3:Int)).toNat) (w64 ((w64 (r3 - (u_3[((row.set 0 (1 + (k:Int)))[at_.toNat]?.getD 0).toNat]?.getD 0))) - (v_3[(1 + (k_3:Int)).toNat]?.getD 0)))))) (
                        (way_5,low_5))) (fun (way_7,low_7) =>
        cond (decide ((low_7[(1 + (k_3:Int)).toNat]?.getD 0) < delta)) (
          Yz costs miss from_ taken k row at_ u_3 v_3 used m (k_3 + 1) (low_7[(1 + (k_3:Int)).toNat]?.getD 0) (1 + (k_3:Int)) way_7 low_7) (
          Yz costs miss from_ taken k row at_ u_3 v_3 used m (k_3 + 1) delta next way_7 low_7)))
def YQ (k:Nat) (row:List Int) (delta_2:Int):List Bool → Nat → (List Int) → (List Int) → (List Int) → (List Int × List Int × List Int)
  | [],_,u_5,v_5,low_8=>(u_5,v_5,low_8)
  | x :: xs,k_4,u_5,v_5,low_8=>cond x (
      YQ k row delta_2 xs (k_4 + 1) (u_5.set (((row.set 0 (1 + (k:Int)))[k_4]?.getD 0).toNat) (w64 ((u_5[((row.set 0 (1 + (k:Int)))[k_4]?.getD 0).toNat]?.getD 0) + delta_2))) (v_5.set k_4 (w64 ((v_5[k_4]?.getD 0) - delta_2))) low_8) (
      YQ k row delta_2 xs (k_4 + 1) u_5 v_5 (low_8.set k_4 (w64 ((low_8[k_4]?.getD 0) - delta_2))))
def XF (costs:List (List Int)) (miss:Int) (from_:Int) (taken:List Bool) (r2:Int) (k:Nat) (row:List Int):Nat → Int → (List Int) → (List Int) → (List Int) → (List Int) → (List Bool) → Option (Int × List Int × List Int × List Int × List Int × List Bool)
  | 0,_,_,_,_,_,_=>none
  | m + 1,at_,u_3,v_3,way_3,low_3,used=>Y3 (Yz costs miss from_ taken k row at_ u_3 v_3 used r2.toNat 0 1152921504606846976 0 way_3 low_3) (fun (delta_2,next_2,way_6,low_6) =>
      Y3 (YQ k row delta_2 (used.set at_.toNat true) 0 u_3 v_3 low_6) (fun (u_6,v_6,low_9) =>
        cond (((row.set 0 (1 + (k:Int)))[next_2.toNat]?.getD 0) == 0) (
          some ((next_2,u_6,v_6,way_6,low_9,(used.set at_.toNat true)))) (
          XF costs miss from_ taken r2 k row m next_2 u_6 v_6 way_6 low_9 (used.set at_.toNat true))))
def Xe (way_4:List Int):Nat → Int → (List Int) → Option (List Int)
  | 0,_,_=>none
  | m + 1,at__3,row_3=>cond (at__3 != 0) (
      Xe way_4 m (way_4[at__3.toNat]?.getD 0) (row_3.set at__3.toNat (row_3[(way_4[at__3.toNat]?.getD 0).toNat]?.getD 0))) (
      some (row_3))
def Q1 (costs:List (List Int)) (miss:Int) (from_:Int) (taken:List Bool) (r2:Int):Nat → Nat → (List Int) → (List Int) → (List Int) → (List Int) → (List Int × List Int × List Int × List Int)
  | 0,_,u,v,row,way=>(u,v,row,way)
  | m + 1,k,u,v,row,way=>Y3 (YF ((w64 (r2 + 1)).toNat) 0 (List.replicate ((w64 (r2 + 1)).toNat) (0:Int))) (fun low_2 =>
      Y3 ((XF costs miss from_ taken r2 k row 100 0 u v way low_2 (List.replicate ((w64 (r2 + 1)).toNat) false)).getD default) (fun (at__2,u_4,v_4,way_4,_,_) =>
        Y3 ((Xe way_4 100 at__2 (row.set 0 (1 + (k:Int)))).getD default) (fun row_4 =>
          Q1 costs miss from_ taken r2 m (k + 1) u_4 v_4 row_4 way_4)))
def XZ (costs:List (List Int)) (miss:Int) (from_:Int) (taken:List Bool) (row_2:List Int):Nat → Nat → Int → Int
  | 0,_,sum_=>sum_
  | m + 1,k_5,sum_=>cond (decide ((row_2[(1 + (k_5:Int)).toNat]?.getD 0) > 0)) (
      let r4:=Ys (w64 ((row_2[(1 + (k_5:Int)).toNat]?.getD 0) - 1)) (w64 ((1 + (k_5:Int)) - 1)) (((costs.drop from_.toNat)[0]?.getD []).length:Int) miss taken (costs.drop from_.toNat)
      XZ costs miss from_ taken row_2 m (k_5 + 1) (w64 (sum_ + r4))) (
      XZ costs miss from_ taken row_2 m (k_5 + 1) sum_)
def Z5 (costs:List (List Int)) (miss:Int) (from_:Int) (taken:List Bool):Int :=
  let r1:=((costs.drop from_.toNat).length:Int)
  cond (r1 == 0) (
    0) (
    let r2:=w64 ((((costs.drop from_.toNat)[0]?.getD []).length:Int) + r1)
    Y3 (Q1 costs miss from_ taken r2 r1.toNat 0 (List.replicate ((w64 (r1 + 1)).toNat) (0:Int)) (List.replicate ((w64 (r2 + 1)).toNat) (0:Int)) (List.replicate ((w64 (r2 + 1)).toNat) (0:Int)) (List.replicate ((w64 (r2 + 1)).toNat) (0:Int))) (fun (_,_,row_2,_) =>
      Y3 (XZ costs miss from_ taken row_2 r2.toNat 0 0) (fun sum__2 =>
        sum__2)))
end Go.Sky
end
