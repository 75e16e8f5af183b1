/- Lemmas toward the given statement (part 21 of 22): Nb Nc TSeen Nd TTop Ne LawTopTracks. Each theorem states its own conditions; nothing is assumed beyond them. -/
import Derived.Test.YtjggkpkehdnhiaaGreatDoorBt20
import Derived.Test.YtjggkpkehdnhiaaGreatDoorBt05
import Derived.Test.YtjggkpkehdnhiaaGreatDoorBt12
section
namespace Go.Sky
open Go Go.Eng Go.Proofs
open Go.Srt
set_option maxRecDepth 100000 in
theorem TR (A_x:Option Addr) (c_x:Nat) (x:List Zl) (w:World) (hM:Sat ⟨w,Xf [.inr (Own A_x c_x 89 6 (x.map Zl.c))]⟩ [.inr (Own A_x c_x 89 6 (x.map Zl.c))] w):Calls Tryz.prog 104 #[.slice A_x x.length c_x,.func (.func 105) #[] #[]] w (QK (Γ:=(List Zl)) ⟨w,Xf [.inr (Own A_x c_x 89 6 (x.map Zl.c))]⟩ (fun _=>.tuple #[]) (fun g=>[.inr (X8 (g.length=x.length∧g=U6 x)),.inr (Own A_x c_x 89 6 (g.map Zl.c))])):=by
 exact MK A_x c_x _ x w hM
set_option maxHeartbeats 4000000 in
set_option maxRecDepth 100000 in
theorem P7 (A_s:Option Addr) (c_s:Nat) (s:List Zl) (w:World) (hM:Sat ⟨w,Xf [.inr (Own A_s c_s 89 6 (s.map Zl.c))]⟩ [.inr (Own A_s c_s 89 6 (s.map Zl.c))] w):Calls Tryz.prog 106 #[.slice A_s s.length c_s] w (QK (Γ:=(List Zl)) ⟨w,Xf [.inr (Own A_s c_s 89 6 (s.map Zl.c))]⟩ (fun g=>.slice A_s g.length c_s) (fun g=>[.inr (X8 (g=cpt Zl.eqb s)),.inr (Own A_s c_s 89 6 (g.map Zl.c))])):=by
 refine Yu (w0:=⟨w,Xf [Ow A_s c_s 89 6 (s.map Zl.c)]⟩) (vs:=[.slice A_s s.length c_s]) hM Tryz.func106 rfl Tryz.ntmps106 rfl (TC.weak [(0,.slice A_s s.length c_s)] Kr (TC.know (fun w hM=>hM.short_at 0 rfl) (fun s_s=>TC.sr (TL.run 1 [] [(0,.slice A_s s.length c_s)] rfl {} (TL.ns (TC.sr (TL.run 3 [] [(0,.slice A_s s.length c_s),(8,.b (decide ((s.length:Int)<2)))] rfl {} (TL.next rfl (TC.cond (decide ((s.length:Int)<2)) rfl Kr (fun h1=>?_) (fun h1=>?_))))))))))
 ·exact TC.sr (TL.run 2 [] [(2,.slice A_s s.length c_s)] rfl {} (TL.next rfl (TC.ret (TE.rt (TE.retM (.inl rfl) s [] (.slice A_s s.length c_s) {} rfl (fun _ hM=>(hM.sub (sb 1)).fact (by have q0_:=(Z4 h1);(try dsimp only);first|exact GV (by omega)|exact(by rw[hclr];exact(UN (by omega)).trans ho1.2)|exact ho0)))))))
 ·refine TC.sn (TC.seq (TC.sr (TL.run 1 [] [(0,.slice A_s s.length c_s),(3,.i 1)] rfl {} (TL.next rfl (TC.weak [(0,.slice A_s s.length c_s),(3,.i 1)] Kr (TC.cut (S:=Unit) (fun (_:Unit)=>[(0,.slice A_s s.length c_s)]) (fun (_:Unit)=>[Ow A_s c_s 89 6 (s.map Zl.c)]) (fun (_:Unit)=>(s=cpt Zl.eqb s)) ?_ ?_))))))
  ·refine TC.block (TC.loop (X:=Int) (fun k_2=>[(0,.slice A_s s.length c_s),(3,.i k_2)]) (fun k_2=>[Ow A_s c_s 89 6 (s.map Zl.c)]) (fun k_2=>((s.length:Int)-k_2).toNat) (fun k_2=>((1≤k_2∧k_2≤(s.length:Int))∧cpt Zl.eqb (s.take k_2.toNat)=s.take k_2.toNat)) ?_ 1 (by have q0_:=(Zo h1);first|exact⟨by omega,P4 (by omega)⟩))
   rintro k_2 hv0
   refine TC.seq (TC.sr (TL.run 4 [] [(0,.slice A_s s.length c_s),(3,.i k_2),(13,.b (decide (k_2<(s.length:Int))))] rfl {} (TL.next rfl (TC.cond (decide (k_2<(s.length:Int))) rfl Kr (fun h2=>?_) (fun h2=>?_)))))
   ·refine TC.sn (TC.seq (TC.block (TC.seq (TC.draw 10 Kr Kr Kr (TQ.run 2 [] [(0,.slice A_s s.length c_s),(3,.i k_2),(16,.slice A_s s.length c_s),(17,.i k_2)] rfl {} (TQ.val (sV (Instr.indexAt 83 (.slice A_s s.length c_s) (.i k_2))) (some 18) (.pointer (some (Ix A_s (k_2.toNat*6)))) [(0,.slice A_s s.length c_s),(3,.i k_2),(18,.pointer (some (Ix A_s (k_2.toNat*6))))] (fun w hM=>Zr (hM.rd_at 0 rfl) (by simp) Kr (by have q0_:=(Zo h1);have q1_:=(Z4 h2);have kv0_:=hv0.1;exact sd) (by have q0_:=(Zo h1);have q1_:=(Z4 h2);have kv0_:=hv0.1;exact sd)) rfl Kr Kr (TQ.val (sV (Instr.loadAt 89 (.pointer (some (Ix A_s (k_2.toNat*6)))))) (some 19) (Zl.v (s[k_2.toNat]?.getD Zl.zero)) [(0,.slice A_s s.length c_s),(3,.i k_2),(19,Zl.v (s[k_2.toNat]?.getD Zl.zero))] (fun w hM=>Z6 (n:=6) (off:=0) (i:=k_2.toNat) (Zl.v (s[k_2.toNat]?.getD Zl.zero)) (hM.rd_at 0 rfl) (ZA (getD_at _ _ Zl.zero (by have q0_:=(Zo h1);have q1_:=(Z4 h2);have kv0_:=hv0.1;exact sd))) Kr Kr Kr) rfl Kr Kr (TQ.run 7 [] [(0,.slice A_s s.length c_s),(3,.i k_2),(19,Zl.v (s[k_2.toNat]?.getD Zl.zero)),(20,.slice A_s s.length c_s),(22,.i (w64 (k_2-1)))] rfl {} (TQ.rw 22 (.i (w64 (k_2-1))) (.i (k_2-1)) Kr (int_eq (by have q0_:=(Zo h1);have q1_:=(Z4 h2);have kv0_:=hv0.1;rw[Zm (x:=(k_2-1)) (by omega)])) (TQ.val (sV (Instr.indexAt 83 (.slice A_s s.length c_s) (.i (k_2-1)))) (some 23) (.pointer (some (Ix A_s ((k_2-1).toNat*6)))) [(0,.slice A_s s.length c_s),(3,.i k_2),(19,Zl.v (s[k_2.toNat]?.getD Zl.zero)),(23,.pointer (some (Ix A_s ((k_2-1).toNat*6))))] (fun w hM=>Zr (hM.rd_at 0 rfl) (by simp) Kr (by have q0_:=(Zo h1);have q1_:=(Z4 h2);have kv0_:=hv0.1;exact sd) (by have q0_:=(Zo h1);have q1_:=(Z4 h2);have kv0_:=hv0.1;exact sd)) rfl Kr Kr (TQ.val (sV (Instr.loadAt 89 (.pointer (some (Ix A_s ((k_2-1).toNat*6)))))) (some 24) (Zl.v (s[(k_2-1).toNat]?.getD Zl.zero)) [(0,.slice A_s s.length c_s),(3,.i k_2),(19,Zl.v (s[k_2.toNat]?.getD Zl.zero)),(24,Zl.v (s[(k_2-1).toNat]?.getD Zl.zero))] (fun w hM=>Z6 (n:=6) (off:=0) (i:=(k_2-1).toNat) (Zl.v (s[(k_2-1).toNat]?.getD Zl.zero)) (hM.rd_at 0 rfl) (ZA (getD_at _ _ Zl.zero (by have q0_:=(Zo h1);have q1_:=(Z4 h2);have kv0_:=hv0.1;exact sd))) Kr Kr Kr) rfl Kr Kr (TQ.val (sV (do eqGuard .eql 89 (.tmp 19) (.tmp 24) (Zl.v (s[k_2.toNat]?.getD Zl.zero)) (Zl.v (s[(k_2-1).toNat]?.getD Zl.zero));binOp .eql 89 (Zl.v (s[k_2.toNat]?.getD Zl.zero)) (Zl.v (s[(k_2-1).toNat]?.getD Zl.zero)))) (some 25) (.b (Zl.eqb (s[k_2.toNat]?.getD Zl.zero) (s[(k_2-1).toNat]?.getD Zl.zero))) [(0,.slice A_s s.length c_s),(3,.i k_2),(25,.b (Zl.eqb (s[k_2.toNat]?.getD Zl.zero) (s[(k_2-1).toNat]?.getD Zl.zero)))] (fun w hM=>Sj (b:=Zl.eqb (s[k_2.toNat]?.getD Zl.zero) (s[(k_2-1).toNat]?.getD Zl.zero)) Kr Kr w) rfl Kr Kr (TQ.next rfl (TC.cond (Zl.eqb (s[k_2.toNat]?.getD Zl.zero) (s[(k_2-1).toNat]?.getD Zl.zero)) rfl Kr (fun h3=>?_) (fun h3=>?_)))))))))))))))
    ·refine TC.sr (TL.run 2 [] [(0,.slice A_s s.length c_s),(3,.i k_2),(26,.slice A_s s.length c_s),(27,.i k_2)] rfl {} ?_)
     obtain⟨A1,hA1⟩:∃ A0_,A0_=(if c_s=k_2.toNat then A_s else A_s.map (fun a=>a.add (k_2.toNat*6))):=⟨_,rfl⟩
     refine TL.val (sV (Instr.sliceAt 83 (.slice A_s s.length c_s) (some (.i k_2)) none none)) (some 28) (.slice A1 ((s.drop k_2.toNat).length) (c_s-k_2.toNat)) [(0,.slice A_s s.length c_s),(3,.i k_2),(28,.slice A1 ((s.drop k_2.toNat).length) (c_s-k_2.toNat))] (fun w hM=>(JI k_2.toNat s.length Kr (.inr ⟨_,_,rfl,(by have q0_:=(Zo h1);have q1_:=(Z4 h2);have kv0_:=hv0.1;exact sd),rfl⟩) (.inl ⟨rfl,rfl⟩) (by have q0_:=(Zo h1);have q1_:=(Z4 h2);have kv0_:=hv0.1;exact sd) (Nat.le_trans (Nat.le_refl _) (hM.le_at 0 rfl))).trans (by rw[hA1];have q0_:=(Zo h1);have q1_:=(Z4 h2);have kv0_:=hv0.1;congr 3;simp only[List.length_drop])) Kr Kr (TL.run 4 [] [(0,.slice A_s s.length c_s),(3,.i k_2),(4,.slice A1 ((s.drop k_2.toNat).length) (c_s-k_2.toNat))] rfl {} (TL.ns (TC.sr (TL.run 1 [] [(0,.slice A_s s.length c_s),(3,.i k_2),(4,.slice A1 ((s.drop k_2.toNat).length) (c_s-k_2.toNat)),(5,.i 1)] rfl {} (TL.next rfl (TC.weak [(0,.slice A_s s.length c_s),(3,.i k_2),(4,.slice A1 ((s.drop k_2.toNat).length) (c_s-k_2.toNat)),(5,.i 1)] Kr (TC.cut (S:=Int×(List Zl)) (fun (k_5,s_3)=>[(0,.slice A_s s_3.length c_s),(3,.i k_5)]) (fun (k_5,s_3)=>[Ow A_s c_s 89 6 (s_3.map Zl.c)]) (fun (k_5,s_3)=>((0≤k_5∧k_5≤(s.length:Int))∧s_3.take k_5.toNat=cpt Zl.eqb s)∧s_3.length=s.length) ?_ ?_)))))))
     ·refine TC.block (TC.loop (X:=Int×Int×(List Zl)) (fun (k_4,k2,s_2)=>[(0,.slice A_s s_2.length c_s),(3,.i k_4),(4,.slice A1 ((s.drop k_2.toNat).length) (c_s-k_2.toNat)),(5,.i k2)]) (fun (k_4,k2,s_2)=>[Ow A_s c_s 89 6 (s_2.map Zl.c)]) (fun (k_4,k2,s_2)=>((s.length:Int)-k2).toNat) (fun (k_4,k2,s_2)=>((1≤k2∧k_2+k2≤(s.length:Int)∧k_2≤k_4∧k_4+1≤k_2+k2)∧Cin Zl.eqb s k_2 k2 k_4 s_2)∧s_2.length=s.length) ?_ (k_2,1,s) ⟨(by have q0_:=(Zo h1);have q1_:=(Z4 h2);have kv0_:=hv0.1;first|exact⟨by omega,Rn hv0.2 (by omega) (by omega) (by first|assumption|exact HZ (by assumption)|exact Ba (by assumption))⟩),(by simp)⟩)
      rintro⟨k_4,k2,s_2⟩ ⟨hv1,hl_s_2⟩
      refine TC.seq (TC.sr (TL.run 4 [] [(0,.slice A_s s_2.length c_s),(3,.i k_4),(4,.slice A1 ((s.drop k_2.toNat).length) (c_s-k_2.toNat)),(5,.i k2),(32,.b (decide (k2<((s.drop k_2.toNat).length:Int))))] rfl {} (TL.next rfl (TC.cond (decide (k2<((s.drop k_2.toNat).length:Int))) rfl Kr (fun h4=>?_) (fun h4=>?_)))))
      ·refine TC.sn (TC.seq (TC.block (TC.seq (TC.draw 10 Kr Kr Kr (TQ.run 2 [] [(0,.slice A_s s_2.length c_s),(3,.i k_4),(4,.slice A1 ((s.drop k_2.toNat).length) (c_s-k_2.toNat)),(5,.i k2),(35,.slice A1 ((s.drop k_2.toNat).length) (c_s-k_2.toNat)),(36,.i k2)] rfl {} (TQ.val (sV (Instr.indexAt 83 (.slice A1 ((s.drop k_2.toNat).length) (c_s-k_2.toNat)) (.i k2))) (some 37) (.pointer (some (Ix A1 (k2.toNat*6)))) [(0,.slice A_s s_2.length c_s),(3,.i k_4),(4,.slice A1 ((s.drop k_2.toNat).length) (c_s-k_2.toNat)),(5,.i k2),(37,.pointer (some (Ix A1 (k2.toNat*6))))] (fun w hM=>Zr (by have hR0_:=hM.rd_at 0 rfl;have hC0_:=hM.le_at 0 rfl;rw[hA1];exact hR0_.dropMap k_2.toNat hC0_) (by simp only[List.length_map,List.length_drop];first|rfl|omega) Kr (by have q0_:=(Zo h1);have q1_:=(Z4 h2);have q2_:=(Z4 h4);have kv0_:=hv0.1;have kv1_:=hv1.1;have kd_:=List.length_drop (i:=(k_2).toNat) (l:=s);have ke_:=List.length_drop (i:=(k_2).toNat) (l:=s_2);exact sd) (by have q0_:=(Zo h1);have q1_:=(Z4 h2);have q2_:=(Z4 h4);have kv0_:=hv0.1;have kv1_:=hv1.1;have kd_:=List.length_drop (i:=(k_2).toNat) (l:=s);have ke_:=List.length_drop (i:=(k_2).toNat) (l:=s_2);exact sd)) rfl Kr Kr (TQ.val (sV (Instr.loadAt 89 (.pointer (some (Ix A1 (k2.toNat*6)))))) (some 38) (Zl.v ((s_2.drop k_2.toNat)[k2.toNat]?.getD Zl.zero)) [(0,.slice A_s s_2.length c_s),(3,.i k_4),(4,.slice A1 ((s.drop k_2.toNat).length) (c_s-k_2.toNat)),(5,.i k2),(38,Zl.v ((s_2.drop k_2.toNat)[k2.toNat]?.getD Zl.zero))] (fun w hM=>Z6 (n:=6) (off:=0) (i:=k2.toNat) (Zl.v ((s_2.drop k_2.toNat)[k2.toNat]?.getD Zl.zero)) (by have hR0_:=hM.rd_at 0 rfl;have hC0_:=hM.le_at 0 rfl;rw[hA1];exact hR0_.dropMap k_2.toNat hC0_) (ZA (getD_at _ _ Zl.zero (by have q0_:=(Zo h1);have q1_:=(Z4 h2);have q2_:=(Z4 h4);have kv0_:=hv0.1;have kv1_:=hv1.1;have kd_:=List.length_drop (i:=(k_2).toNat) (l:=s);have ke_:=List.length_drop (i:=(k_2).toNat) (l:=s_2);exact sd))) Kr Kr Kr) rfl Kr Kr (TQ.run 7 [] [(0,.slice A_s s_2.length c_s),(3,.i k_4),(4,.slice A1 ((s.drop k_2.toNat).length) (c_s-k_2.toNat)),(5,.i k2),(38,Zl.v ((s_2.drop k_2.toNat)[k2.toNat]?.getD Zl.zero)),(39,.slice A1 ((s.drop k_2.toNat).length) (c_s-k_2.toNat)),(41,.i (w64 (k2-1)))] rfl {} (TQ.rw 41 (.i (w64 (k2-1))) (.i (k2-1)) Kr (int_eq (by have q0_:=(Zo h1);have q1_:=(Z4 h2);have q2_:=(Z4 h4);have kv0_:=hv0.1;have kv1_:=hv1.1;have kd_:=List.length_drop (i:=(k_2).toNat) (l:=s);have ke_:=List.length_drop (i:=(k_2).toNat) (l:=s_2);rw[Zm (x:=(k2-1)) (by omega)])) (TQ.val (sV (Instr.indexAt 83 (.slice A1 ((s.drop k_2.toNat).length) (c_s-k_2.toNat)) (.i (k2-1)))) (some 42) (.pointer (some (Ix A1 ((k2-1).toNat*6)))) [(0,.slice A_s s_2.length c_s),(3,.i k_4),(4,.slice A1 ((s.drop k_2.toNat).length) (c_s-k_2.toNat)),(5,.i k2),(38,Zl.v ((s_2.drop k_2.toNat)[k2.toNat]?.getD Zl.zero)),(42,.pointer (some (Ix A1 ((k2-1).toNat*6))))] (fun w hM=>Zr (by have hR0_:=hM.rd_at 0 rfl;have hC0_:=hM.le_at 0 rfl;rw[hA1];exact hR0_.dropMap k_2.toNat hC0_) (by simp only[List.length_map,List.length_drop];first|rfl|omega) Kr (by have q0_:=(Zo h1);have q1_:=(Z4 h2);have q2_:=(Z4 h4);have kv0_:=hv0.1;have kv1_:=hv1.1;have kd_:=List.length_drop (i:=(k_2).toNat) (l:=s);have ke_:=List.length_drop (i:=(k_2).toNat) (l:=s_2);exact sd) (by have q0_:=(Zo h1);have q1_:=(Z4 h2);have q2_:=(Z4 h4);have kv0_:=hv0.1;have kv1_:=hv1.1;have kd_:=List.length_drop (i:=(k_2).toNat) (l:=s);have ke_:=List.length_drop (i:=(k_2).toNat) (l:=s_2);exact sd)) rfl Kr Kr (TQ.val (sV (Instr.loadAt 89 (.pointer (some (Ix A1 ((k2-1).toNat*6)))))) (some 43) (Zl.v ((s_2.drop k_2.toNat)[(k2-1).toNat]?.getD Zl.zero)) [(0,.slice A_s s_2.length c_s),(3,.i k_4),(4,.slice A1 ((s.drop k_2.toNat).length) (c_s-k_2.toNat)),(5,.i k2),(38,Zl.v ((s_2.drop k_2.toNat)[k2.toNat]?.getD Zl.zero)),(43,Zl.v ((s_2.drop k_2.toNat)[(k2-1).toNat]?.getD Zl.zero))] (fun w hM=>Z6 (n:=6) (off:=0) (i:=(k2-1).toNat) (Zl.v ((s_2.drop k_2.toNat)[(k2-1).toNat]?.getD Zl.zero)) (by have hR0_:=hM.rd_at 0 rfl;have hC0_:=hM.le_at 0 rfl;rw[hA1];exact hR0_.dropMap k_2.toNat hC0_) (ZA (getD_at _ _ Zl.zero (by have q0_:=(Zo h1);have q1_:=(Z4 h2);have q2_:=(Z4 h4);have kv0_:=hv0.1;have kv1_:=hv1.1;have kd_:=List.length_drop (i:=(k_2).toNat) (l:=s);have ke_:=List.length_drop (i:=(k_2).toNat) (l:=s_2);exact sd))) Kr Kr Kr) rfl Kr Kr (TQ.val (sV (do eqGuard .neq 89 (.tmp 38) (.tmp 43) (Zl.v ((s_2.drop k_2.toNat)[k2.toNat]?.getD Zl.zero)) (Zl.v ((s_2.drop k_2.toNat)[(k2-1).toNat]?.getD Zl.zero));binOp .neq 89 (Zl.v ((s_2.drop k_2.toNat)[k2.toNat]?.getD Zl.zero)) (Zl.v ((s_2.drop k_2.toNat)[(k2-1).toNat]?.getD Zl.zero)))) (some 44) (.b (!(Zl.eqb ((s_2.drop k_2.toNat)[k2.toNat]?.getD Zl.zero) ((s_2.drop k_2.toNat)[(k2-1).toNat]?.getD Zl.zero)))) [(0,.slice A_s s_2.length c_s),(3,.i k_4),(4,.slice A1 ((s.drop k_2.toNat).length) (c_s-k_2.toNat)),(5,.i k2),(44,.b (!(Zl.eqb ((s_2.drop k_2.toNat)[k2.toNat]?.getD Zl.zero) ((s_2.drop k_2.toNat)[(k2-1).toNat]?.getD Zl.zero))))] (fun w hM=>MV (b:=Zl.eqb ((s_2.drop k_2.toNat)[k2.toNat]?.getD Zl.zero) ((s_2.drop k_2.toNat)[(k2-1).toNat]?.getD Zl.zero)) Kr Kr w) rfl Kr Kr (TQ.next rfl (TC.cond (!(Zl.eqb ((s_2.drop k_2.toNat)[k2.toNat]?.getD Zl.zero) ((s_2.drop k_2.toNat)[(k2-1).toNat]?.getD Zl.zero))) rfl Kr (fun h5=>?_) (fun h5=>?_)))))))))))))))
       ·exact TC.sr (TL.run 4 [] [(0,.slice A_s s_2.length c_s),(3,.i k_4),(4,.slice A1 ((s.drop k_2.toNat).length) (c_s-k_2.toNat)),(5,.i k2),(45,.slice A_s s_2.length c_s),(46,.i k_4),(47,.slice A1 ((s.drop k_2.toNat).length) (c_s-k_2.toNat)),(48,.i k2)] rfl {} (TL.val (sV (Instr.indexAt 83 (.slice A1 ((s.drop k_2.toNat).length) (c_s-k_2.toNat)) (.i k2))) (some 49) (.pointer (some (Ix A1 (k2.toNat*6)))) [(0,.slice A_s s_2.length c_s),(3,.i k_4),(4,.slice A1 ((s.drop k_2.toNat).length) (c_s-k_2.toNat)),(5,.i k2),(45,.slice A_s s_2.length c_s),(46,.i k_4),(49,.pointer (some (Ix A1 (k2.toNat*6))))] (fun w hM=>Zr (by have hR0_:=hM.rd_at 0 rfl;have hC0_:=hM.le_at 0 rfl;rw[hA1];exact hR0_.dropMap k_2.toNat hC0_) (by simp only[List.length_map,List.length_drop];first|rfl|omega) Kr (by have q0_:=(Zo h1);have q1_:=(Z4 h2);have q2_:=(Z4 h4);have kv0_:=hv0.1;have kv1_:=hv1.1;have kd_:=List.length_drop (i:=(k_2).toNat) (l:=s);have ke_:=List.length_drop (i:=(k_2).toNat) (l:=s_2);exact sd) (by have q0_:=(Zo h1);have q1_:=(Z4 h2);have q2_:=(Z4 h4);have kv0_:=hv0.1;have kv1_:=hv1.1;have kd_:=List.length_drop (i:=(k_2).toNat) (l:=s);have ke_:=List.length_drop (i:=(k_2).toNat) (l:=s_2);exact sd)) Kr Kr (TL.val (sV (Instr.loadAt 89 (.pointer (some (Ix A1 (k2.toNat*6)))))) (some 50) (Zl.v ((s_2.drop k_2.toNat)[k2.toNat]?.getD Zl.zero)) [(0,.slice A_s s_2.length c_s),(3,.i k_4),(4,.slice A1 ((s.drop k_2.toNat).length) (c_s-k_2.toNat)),(5,.i k2),(45,.slice A_s s_2.length c_s),(46,.i k_4),(50,Zl.v ((s_2.drop k_2.toNat)[k2.toNat]?.getD Zl.zero))] (fun w hM=>Z6 (n:=6) (off:=0) (i:=k2.toNat) (Zl.v ((s_2.drop k_2.toNat)[k2.toNat]?.getD Zl.zero)) (by have hR0_:=hM.rd_at 0 rfl;have hC0_:=hM.le_at 0 rfl;rw[hA1];exact hR0_.dropMap k_2.toNat hC0_) (ZA (getD_at _ _ Zl.zero (by have q0_:=(Zo h1);have q1_:=(Z4 h2);have q2_:=(Z4 h4);have kv0_:=hv0.1;have kv1_:=hv1.1;have kd_:=List.length_drop (i:=(k_2).toNat) (l:=s);have ke_:=List.length_drop (i:=(k_2).toNat) (l:=s_2);exact sd))) Kr Kr Kr) Kr Kr (TL.val (sV (Instr.indexAt 83 (.slice A_s s_2.length c_s) (.i k_4))) (some 51) (.pointer (some (Ix A_s (k_4.toNat*6)))) [(0,.slice A_s s_2.length c_s),(3,.i k_4),(4,.slice A1 ((s.drop k_2.toNat).length) (c_s-k_2.toNat)),(5,.i k2),(50,Zl.v ((s_2.drop k_2.toNat)[k2.toNat]?.getD Zl.zero)),(51,.pointer (some (Ix A_s (k_4.toNat*6))))] (fun w hM=>Zr (hM.rd_at 0 rfl) (by simp) Kr (by have q0_:=(Zo h1);have q1_:=(Z4 h2);have q2_:=(Z4 h4);have kv0_:=hv0.1;have kv1_:=hv1.1;have kd_:=List.length_drop (i:=(k_2).toNat) (l:=s);have ke_:=List.length_drop (i:=(k_2).toNat) (l:=s_2);exact sd) (by have q0_:=(Zo h1);have q1_:=(Z4 h2);have q2_:=(Z4 h4);have kv0_:=hv0.1;have kv1_:=hv1.1;have kd_:=List.length_drop (i:=(k_2).toNat) (l:=s);have ke_:=List.length_drop (i:=(k_2).toNat) (l:=s_2);exact sd)) Kr Kr (TL.skipM (Γ:=Unit) (sU (Instr.storeAt 89 (.pointer (some ((Ix A_s (k_4.toNat*6)).add 0))) (Zl.v ((s_2.drop k_2.toNat)[k2.toNat]?.getD Zl.zero)))) none (fun _=>[Ow A_s c_s 89 6 ((s_2.set k_4.toNat ((s_2.drop k_2.toNat)[k2.toNat]?.getD Zl.zero)).map Zl.c)]) (fun _=>[(0,.slice A_s s_2.length c_s),(3,.i k_4),(4,.slice A1 ((s.drop k_2.toNat).length) (c_s-k_2.toNat)),(5,.i k2)]) (YB (n:=6) (off:=0) (Zl.v ((s_2.drop k_2.toNat)[k2.toNat]?.getD Zl.zero)) 0 ((s_2.set k_4.toNat ((s_2.drop k_2.toNat)[k2.toNat]?.getD Zl.zero)).map Zl.c) rfl (ZA (getD_at _ _ Zl.zero (by have q0_:=(Zo h1);have q1_:=(Z4 h2);have q2_:=(Z4 h4);have kv0_:=hv0.1;have kv1_:=hv1.1;have kd_:=List.length_drop (i:=(k_2).toNat) (l:=s);have ke_:=List.length_drop (i:=(k_2).toNat) (l:=s_2);exact sd))) Kr Kr Kr Kr (Xj Kr)) Kr (fun _=>Kr) (fun _=>TL.rw 0 (.slice A_s s_2.length c_s) (.slice A_s ((s_2.set k_4.toNat ((s_2.drop k_2.toNat)[k2.toNat]?.getD Zl.zero)).length) c_s) Kr (by simp only[List.length_set]) (TL.next rfl (TC.region (TL.run 3 [] [(0,.slice A_s ((s_2.set k_4.toNat ((s_2.drop k_2.toNat)[k2.toNat]?.getD Zl.zero)).length) c_s),(3,.i (w64 (k_4+1))),(4,.slice A1 ((s.drop k_2.toNat).length) (c_s-k_2.toNat)),(5,.i k2)] rfl {} (TL.rw 3 (.i (w64 (k_4+1))) (.i (k_4+1)) Kr (int_eq (by have q0_:=(Zo h1);have q1_:=(Z4 h2);have q2_:=(Z4 h4);have kv0_:=hv0.1;have kv1_:=hv1.1;have kd_:=List.length_drop (i:=(k_2).toNat) (l:=s);have ke_:=List.length_drop (i:=(k_2).toNat) (l:=s_2);rw[Zm (x:=(k_4+1)) (by omega)])) (TL.done rfl (TE.nb (TE.next (TC.region (TL.run 3 [] [(0,.slice A_s ((s_2.set k_4.toNat ((s_2.drop k_2.toNat)[k2.toNat]?.getD Zl.zero)).length) c_s),(3,.i (k_4+1)),(4,.slice A1 ((s.drop k_2.toNat).length) (c_s-k_2.toNat)),(5,.i (w64 (k2+1)))] rfl {} (TL.rw 5 (.i (w64 (k2+1))) (.i (k2+1)) Kr (int_eq (by have q0_:=(Zo h1);have q1_:=(Z4 h2);have q2_:=(Z4 h4);have kv0_:=hv0.1;have kv1_:=hv1.1;have kd_:=List.length_drop (i:=(k_2).toNat) (l:=s);have ke_:=List.length_drop (i:=(k_2).toNat) (l:=s_2);rw[Zm (x:=(k2+1)) (by omega)])) (TL.done rfl (TE.again (x:=(k_4,k2,s_2)) ((k_4+1),(k2+1),(s_2.set k_4.toNat ((s_2.drop k_2.toNat)[k2.toNat]?.getD Zl.zero))) ⟨(by have q0_:=(Zo h1);have q1_:=(Z4 h2);have q2_:=(Z4 h4);have kv0_:=hv0.1;have kv1_:=hv1.1;have kd_:=List.length_drop (i:=(k_2).toNat) (l:=s);have ke_:=List.length_drop (i:=(k_2).toNat) (l:=s_2);first|exact⟨by omega,TP hv1.2 (by omega) (by omega) (by omega) (by omega) (by omega) (by omega) (by first|assumption|exact HZ (by assumption)|exact Ba (by assumption))⟩|exact⟨by omega,TO hv1.2 (by omega) (by omega) (by omega) (by first|assumption|exact HZ (by assumption)|exact Ba (by assumption))⟩),(by first|rfl|omega|(simp only[List.length_set];omega))⟩ (by have q0_:=(Zo h1);have q1_:=(Z4 h2);have q2_:=(Z4 h4);have kv0_:=hv0.1;have kv1_:=hv1.1;have kd_:=List.length_drop (i:=(k_2).toNat) (l:=s);have ke_:=List.length_drop (i:=(k_2).toNat) (l:=s_2);(try dsimp only);omega) Kr (sb 1)))))))))))))))))))
       ·exact TC.skip (TE.nb (TE.next (TC.region (TL.run 3 [] [(0,.slice A_s s_2.length c_s),(3,.i k_4),(4,.slice A1 ((s.drop k_2.toNat).length) (c_s-k_2.toNat)),(5,.i (w64 (k2+1)))] rfl {} (TL.rw 5 (.i (w64 (k2+1))) (.i (k2+1)) Kr (int_eq (by have q0_:=(Zo h1);have q1_:=(Z4 h2);have q2_:=(Z4 h4);have kv0_:=hv0.1;have kv1_:=hv1.1;have kd_:=List.length_drop (i:=(k_2).toNat) (l:=s);have ke_:=List.length_drop (i:=(k_2).toNat) (l:=s_2);rw[Zm (x:=(k2+1)) (by omega)])) (TL.done rfl (TE.again (x:=(k_4,k2,s_2)) (k_4,(k2+1),s_2) ⟨(by have q0_:=(Zo h1);have q1_:=(Z4 h2);have q2_:=(Z4 h4);have kv0_:=hv0.1;have kv1_:=hv1.1;have kd_:=List.length_drop (i:=(k_2).toNat) (l:=s);have ke_:=List.length_drop (i:=(k_2).toNat) (l:=s_2);first|exact⟨by omega,TP hv1.2 (by omega) (by omega) (by omega) (by omega) (by omega) (by omega) (by first|assumption|exact HZ (by assumption)|exact Ba (by assumption))⟩|exact⟨by omega,TO hv1.2 (by omega) (by omega) (by omega) (by first|assumption|exact HZ (by assumption)|exact Ba (by assumption))⟩),(by first|rfl|omega|(simp only[List.length_set];omega))⟩ (by have q0_:=(Zo h1);have q1_:=(Z4 h2);have q2_:=(Z4 h4);have kv0_:=hv0.1;have kv1_:=hv1.1;have kd_:=List.length_drop (i:=(k_2).toNat) (l:=s);have ke_:=List.length_drop (i:=(k_2).toNat) (l:=s_2);(try dsimp only);omega) Kr (sb 1))))))))
      ·refine TC.exit (TE.et (TE.et (TE.exit_same ?_)))
       exact TE.cut (k_4,s_2) ⟨(by have q0_:=(Zo h1);have q1_:=(Z4 h2);have q2_:=(Zo h4);have kv0_:=hv0.1;have kv1_:=hv1.1;have kd_:=List.length_drop (i:=(k_2).toNat) (l:=s);have ke_:=List.length_drop (i:=(k_2).toNat) (l:=s_2);first|exact⟨by omega,P6 hv1.2 (by omega)⟩),(by first|rfl|omega|(simp only[List.length_set];omega))⟩ Kr (sb 1)
     ·rintro⟨k_5,s_3⟩ ⟨ho1,hl_s_3⟩
      refine TE.nr (TL.run 2 [] [(0,.slice A_s s_3.length c_s),(3,.i k_5),(54,.slice A_s s_3.length c_s),(55,.i k_5)] rfl {} ?_)
      obtain⟨A1_2,hA1_2⟩:∃ A0_,A0_=(if c_s=k_5.toNat then A_s else A_s.map (fun a=>a.add (k_5.toNat*6))):=⟨_,rfl⟩
      refine TL.val (sV (Instr.sliceAt 83 (.slice A_s s_3.length c_s) (some (.i k_5)) none none)) (some 56) (.slice A1_2 ((s_3.drop k_5.toNat).length) (c_s-k_5.toNat)) [(0,.slice A_s s_3.length c_s),(3,.i k_5),(56,.slice A1_2 ((s_3.drop k_5.toNat).length) (c_s-k_5.toNat))] (fun w hM=>(JI k_5.toNat s_3.length Kr (.inr ⟨_,_,rfl,(by have q0_:=(Zo h1);have q1_:=(Z4 h2);have kv0_:=hv0.1;have ko1_:=ho1.1;exact sd),rfl⟩) (.inl ⟨rfl,rfl⟩) (by have q0_:=(Zo h1);have q1_:=(Z4 h2);have kv0_:=hv0.1;have ko1_:=ho1.1;exact sd) (Nat.le_trans (Nat.le_refl _) (hM.le_at 0 rfl))).trans (by rw[hA1_2];have q0_:=(Zo h1);have q1_:=(Z4 h2);have kv0_:=hv0.1;have ko1_:=ho1.1;congr 3;simp only[List.length_drop])) Kr Kr ?_
      obtain⟨s_4,hclr⟩:∃ x_,x_=(s_3.take k_5.toNat++List.replicate (s_3.length-k_5.toNat) Zl.zero):=⟨_,rfl⟩
      have hlclr:s_4.length=s_3.length:=by have k_:k_5.toNat≤s_3.length:=(by have q0_:=(Zo h1);have q1_:=(Z4 h2);have kv0_:=hv0.1;have ko1_:=ho1.1;exact sd);rw[hclr];simp only[List.length_append,List.length_take,List.length_replicate];omega
      refine TL.opM (Γ:=Unit) (sV (Builtin.clear_ #[83] 0 #[.slice A1_2 ((s_3.drop k_5.toNat).length) (c_s-k_5.toNat)])) none (fun _=>.tuple #[]) (fun _=>[Ow A_s c_s 89 6 (s_4.map Zl.c)]) (fun _=>[(0,.slice A_s s_3.length c_s),(3,.i k_5)]) (by rw[hclr];exact UX (c:=Zl.c) (bytes:=48) (sz:=6) Zl.zero 0 k_5.toNat ((c_s-k_5.toNat)) ((s_3.drop k_5.toNat).length) 0 Kr Kr Zl.one rfl hA1_2 (by simp only[List.length_drop]) (by have q0_:=(Zo h1);have q1_:=(Z4 h2);have kv0_:=hv0.1;have ko1_:=ho1.1;exact sd)) Kr (fun _=>Kr) (fun _=>TL.rw 0 (.slice A_s s_3.length c_s) (.slice A_s s_4.length c_s) Kr (by rw[hlclr]) (TL.nr (TL.run 2 [] [(57,.slice A_s s_4.length c_s),(58,.i k_5)] rfl {} ?_)))
      obtain⟨A1_3,hA1_3⟩:∃ A0_,A0_=(if c_s=0 then A_s else A_s.map (fun a=>a.add (0*6))):=⟨_,rfl⟩
      refine TL.val (sV (Instr.sliceAt 83 (.slice A_s s_4.length c_s) none (some (.i k_5)) none)) (some 59) (.slice A1_3 ((s_4.take k_5.toNat).length) (c_s-0)) [(59,.slice A1_3 ((s_4.take k_5.toNat).length) (c_s-0))] (fun w hM=>(JI 0 k_5.toNat Kr (.inl ⟨rfl,rfl⟩) (.inr ⟨_,_,rfl,(by have q0_:=(Zo h1);have q1_:=(Z4 h2);have kv0_:=hv0.1;have ko1_:=ho1.1;exact sd),rfl⟩) (by have q0_:=(Zo h1);have q1_:=(Z4 h2);have kv0_:=hv0.1;have ko1_:=ho1.1;exact sd) (Nat.le_trans (by have q0_:=(Zo h1);have q1_:=(Z4 h2);have kv0_:=hv0.1;have ko1_:=ho1.1;exact sd) (hM.le_at 0 rfl))).trans (by rw[hA1_3];have q0_:=(Zo h1);have q1_:=(Z4 h2);have kv0_:=hv0.1;have ko1_:=ho1.1;congr 3;first|(simp only[List.length_take] <;> omega)|(simp only[List.length_take] at * <;> omega))) Kr Kr (TL.run 4 [] [(2,.slice A1_3 ((s_4.take k_5.toNat).length) (c_s-0))] rfl {} (TL.next rfl (TC.ret (TE.rb (TE.rt (TE.rt (TE.rb (TE.rt (TE.rt ?_)))))))))
      exact TE.conv [Ow A_s c_s 89 6 ((s_4.take k_5.toNat).map Zl.c)] (fun _ hM=>by have h_:=hM.takerow k_5.toNat 0 rfl (by simp only[List.length_map];exact(by have q0_:=(Zo h1);have q1_:=(Z4 h2);have kv0_:=hv0.1;have ko1_:=ho1.1;exact sg));rw[← List.map_take] at h_;exact h_) (TE.retM (.inl rfl) (s_4.take k_5.toNat) [] (.slice A1_3 ((s_4.take k_5.toNat).length) (c_s-0)) {} (by rw[hA1_3,OA];rfl) (fun _ hM=>(hM.sub (sb 1)).fact (by have q0_:=(Zo h1);have q1_:=(Z4 h2);have kv0_:=hv0.1;have ko1_:=ho1.1;(try dsimp only);first|exact GV (by omega)|exact(by rw[hclr];exact(UN (by omega)).trans ho1.2)|exact ho0)))
    ·exact TC.skip (TE.nb (TE.next (TC.region (TL.run 3 [] [(0,.slice A_s s.length c_s),(3,.i (w64 (k_2+1)))] rfl {} (TL.rw 3 (.i (w64 (k_2+1))) (.i (k_2+1)) Kr (int_eq (by have q0_:=(Zo h1);have q1_:=(Z4 h2);have kv0_:=hv0.1;rw[Zm (x:=(k_2+1)) (by omega)])) (TL.done rfl (TE.again (x:=k_2) (k_2+1) (by have q0_:=(Zo h1);have q1_:=(Z4 h2);have kv0_:=hv0.1;first|exact⟨by omega,TN hv0.2 (by omega) (by omega) (by first|assumption|exact HZ (by assumption)|exact Ba (by assumption))⟩) (by have q0_:=(Zo h1);have q1_:=(Z4 h2);have kv0_:=hv0.1;(try dsimp only);omega) Kr (sb 1))))))))
   ·refine TC.exit (TE.et (TE.et (TE.exit_same ?_)))
    exact TE.cut () (by have q0_:=(Zo h1);have q1_:=(Zo h2);have kv0_:=hv0.1;first|exact P5 hv0.2 (by omega)) Kr (sb 1)
  ·intro _ ho0
   exact TE.nr (TL.run 2 [] [(2,.slice A_s s.length c_s)] rfl {} (TL.next rfl (TC.ret (TE.retM (.inl rfl) s [] (.slice A_s s.length c_s) {} rfl (fun _ hM=>(hM.sub (sb 1)).fact (by have q0_:=(Zo h1);(try dsimp only);first|exact GV (by omega)|exact(by rw[hclr];exact(UN (by omega)).trans ho1.2)|exact ho0))))))
def Qc (x:List Zl):List Zl→Nat→((Unit) ⊕ ((List Zl)×Int))
 | [],_=>.inl ()
 | x_2::xs,k_2=>let r1:=ZL x_2
  cond (r1 != 0) (
   .inr ([],r1)) (
   cond (decide ((k_2:Int)>0)) (
    cond (decide (x_2.Time<((x[(k_2-1)]?.getD Zl.zero).Time))) (
     .inr ([],12)) (
     Qc x xs (k_2+1))) (
    Qc x xs (k_2+1)))
def Qd:List (List Zl)→Nat→(List Zl)→((List Zl) ⊕ ((List Zl)×Int))
 | [],_,out=>.inl out
 | x::xs,k,out=>cond (decide ((x.length:Int)>256)) (
   .inr ([],2)) (
   Sum.elim (fun _ =>
    Qd xs (k+1) (out++x)) (fun r=>.inr r) (Qc x x 0))
def Y1 (feeds:List (List Zl)):List Zl×Int :=
 cond (decide ((feeds.length:Int)>4)) (
  ([],2)) (
  Sum.elim (fun out_2 =>
   let r2:=U6 out_2
   let r3:=cpt Zl.eqb r2
   (r3,0)) (fun r=>r) (Qd feeds 0 ([]:List Zl)))
set_option maxHeartbeats 4000000 in
set_option maxRecDepth 100000 in
theorem HC (A_feeds:Option Addr) (c_feeds:Nat) (feeds:List (List Zl)) (o_feeds:List (Sl Zl)) (w:World) (h_feeds:Rd w 1 A_feeds (o_feeds.map Sl.c)) (_hc_feeds:feeds.length≤c_feeds) (hd_feeds:∀ s∈o_feeds,s.rd w 6 Zl.c) (he_feeds:feeds=o_feeds.map Sl.l):Calls Tryz.prog 49 #[.slice A_feeds feeds.length c_feeds] w (QK (Γ:=(Option Addr×Nat)) (cx w) (fun g=>.tuple #[.slice g.1 ((Y1 feeds).1.length) g.2,.int .i64 ((Y1 feeds).2)]) (fun g=>[.inr (Own g.1 g.2 89 6 (((Y1 feeds).1).map Zl.c))])):=by
 have s_feeds:=h_feeds.short;rw[← JA he_feeds] at s_feeds
 refine Zk (vs:=[.slice A_feeds feeds.length c_feeds]) (w:=w) Tryz.func49 rfl Tryz.ntmps49 rfl (TC.sr (TL.r 2 [] [(2,.slice none 0 0),(3,.i 0)] {} (TL.ns (TC.sr (TL.r 3 [] [(12,.b (decide ((feeds.length:Int)>4)))] {} (TL.next rfl (TC.cond (decide ((feeds.length:Int)>4)) rfl Kr (fun h1=>?_) (fun h1=>?_))))))))
 ·refine TC.sr (TL.r 2 [] [(2,.slice none 0 0),(3,.i 2)] {} (TL.next rfl (TC.ret (TE.rt ?_))))
  have e:Y1 feeds=([],2):=by unfold Y1;exact Zi h1 (rfl)
  refine TE.conv [Ow none 0 89 6 (([]:List Zl).map Zl.c)] (fun _ hM=>hM.emptyrow none 89 6) ?_
  rw[e]
  exact TE.retM (.inl rfl) (none,0) [] (.tuple #[.slice none 0 0,.i 2]) {} rfl (fun _ hM=>hM.sub (sb 1))
 ·have q1_0:=(Zo h1)
  refine TC.snr (TL.r 1 [] [(4,.slice none 0 0)] {} (TL.ns (TC.sr (TL.r 3 [] [(13,.slice A_feeds feeds.length c_feeds),(14,.i (feeds.length:Int)),(15,.i 0)] {} (TL.next rfl (TC.conv [Ow none 0 89 6 (([]:List Zl).map Zl.c)] (fun _ hM=>hM.emptyrow none 89 6) ?_))))))
  obtain⟨R3,hR⟩:∃ R,R=Qd feeds 0 ([]:List Zl):=⟨_,rfl⟩
  refine TC.cut (S:=(List Zl)×(Option Addr)×Nat) (fun (out_2,A_out_2,c_out_2)=>[(4,.slice A_out_2 out_2.length c_out_2)]) (fun (out_2,A_out_2,c_out_2)=>[Ow A_out_2 c_out_2 89 6 (out_2.map Zl.c)]) (fun (out_2,A_out_2,c_out_2)=>R3=.inl out_2∧out_2.length≤256*feeds.length) ?_ ?_
  ·refine TC.block (TC.lw (X:=Nat×(List Zl)×(Option Addr)×Nat) (fun (k,out,A_out,c_out)=>[(4,.slice A_out out.length c_out),(13,.slice A_feeds feeds.length c_feeds),(14,.i (feeds.length:Int)),(15,.i (k:Int))]) (fun (k,out,A_out,c_out)=>[Ow A_out c_out 89 6 (out.map Zl.c)]) (fun (k,out,A_out,c_out)=>feeds.length-k) (fun (k,out,A_out,c_out)=>k≤feeds.length∧R3=Qd (feeds.drop k) k out∧out.length≤256*k) ?_ (0,([]:List Zl),none,0) ⟨Nat.zero_le _,hR,sz⟩ Kr (sb 1))
   rintro⟨k,out,A_out,c_out⟩ ⟨hk,hI,hl_out⟩
   refine TC.sr (TL.r 1 [] [(16,.b (decide ((k:Int)<(feeds.length:Int))))] {} (TL.ns (TC.cond (decide ((k:Int)<(feeds.length:Int))) rfl Kr (fun h2=>?_) (fun h2=>?_))))
   ·have hlt:=ltN h2
    obtain⟨x,hx⟩:=elN hlt
    have hd:=drop_at hx
    refine TC.sn (TC.seq (TC.block (TC.sr (TL.v (sV (Instr.indexAt 128 (.slice A_feeds feeds.length c_feeds) (.i (k:Int)))) 17 (.pointer (some (Ix A_feeds (k*1)))) (fun w hM=>Zr (h_feeds.sat hM) (JA he_feeds) Kr sd sd) {} ?_))))
    have s_s1:=(Jv (Q7 hd_feeds k) (KA he_feeds hx)).short;rw[List.length_map] at s_s1
    refine TL.v (sV (Instr.loadAt 83 (.pointer (some (Ix A_feeds (k*1)))))) 18 (.slice ((o_feeds[k]?.getD Sl.zero).A) x.length ((o_feeds[k]?.getD Sl.zero).cap)) (fun w hM=>(by have h:=Zs (P:=Tryz.prog) (T:=83) (off:=0) (i:=k) (.slice (o_feeds[k]?.getD Sl.zero).A (o_feeds[k]?.getD Sl.zero).l.length (o_feeds[k]?.getD Sl.zero).cap) (h_feeds.sat hM) (ZA (getD_at _ _ Sl.zero (GY he_feeds (List.getElem?_eq_some_iff.1 hx).1))) Kr Kr;rw[(KA he_feeds hx)] at h;exact h)) {} ?_
    refine TL.r 3 [] [(6,.slice ((o_feeds[k]?.getD Sl.zero).A) x.length ((o_feeds[k]?.getD Sl.zero).cap))] {} (TL.ns (TC.sr (TL.r 3 [] [(21,.b (decide ((x.length:Int)>256)))] {} (TL.next rfl (TC.cond (decide ((x.length:Int)>256)) rfl Kr (fun h3=>?_) (fun h3=>?_))))))
    ·refine TC.sr (TL.r 2 [] [(2,.slice none 0 0),(3,.i 2)] {} (TL.next rfl (TC.ret (TE.rt (TE.rb (TE.rt (TE.rt (TE.rb (TE.rt (TE.rt ?_))))))))))
     have e:Y1 feeds=([],2):=by unfold Y1;exact Zb h1 (X7 (hR.symm.trans (hI.trans (by rw[hd];exact Zi h3 (rfl)))) rfl)
     refine TE.conv [Ow none 0 89 6 (([]:List Zl).map Zl.c),Ow A_out c_out 89 6 (out.map Zl.c)] (fun _ hM=>hM.emptyrow none 89 6) ?_
     rw[e]
     exact TE.retM (.inl rfl) (none,0) [] (.tuple #[.slice none 0 0,.i 2]) {} rfl (fun _ hM=>hM.sub (sb 1))
    ·have q3_0:=(Zo h3)
     refine TC.sn (TC.seq (TC.sr (TL.r 3 [] [(22,.slice ((o_feeds[k]?.getD Sl.zero).A) x.length ((o_feeds[k]?.getD Sl.zero).cap)),(23,.i (x.length:Int)),(24,.i 0)] {} (TL.next rfl ?_))))
     obtain⟨R5,hR_2⟩:∃ R,R=Qc x x 0:=⟨_,rfl⟩
     refine TC.cut (S:=Unit) (fun (_:Unit)=>[(4,.slice A_out out.length c_out),(6,.slice ((o_feeds[k]?.getD Sl.zero).A) x.length ((o_feeds[k]?.getD Sl.zero).cap)),(13,.slice A_feeds feeds.length c_feeds),(14,.i (feeds.length:Int)),(15,.i (k:Int))]) (fun (_:Unit)=>[Ow A_out c_out 89 6 (out.map Zl.c)]) (fun (_:Unit)=>R5=.inl ()) ?_ ?_
     ·refine TC.block (TC.lw (X:=Nat) (fun k_2=>[(4,.slice A_out out.length c_out),(6,.slice ((o_feeds[k]?.getD Sl.zero).A) x.length ((o_feeds[k]?.getD Sl.zero).cap)),(13,.slice A_feeds feeds.length c_feeds),(14,.i (feeds.length:Int)),(15,.i (k:Int)),(22,.slice ((o_feeds[k]?.getD Sl.zero).A) x.length ((o_feeds[k]?.getD Sl.zero).cap)),(23,.i (x.length:Int)),(24,.i (k_2:Int))]) (fun k_2=>[Ow A_out c_out 89 6 (out.map Zl.c)]) (fun k_2=>x.length-k_2) (fun k_2=>k_2≤x.length∧R5=Qc x (x.drop k_2) k_2) ?_ 0 ⟨Nat.zero_le _,hR_2⟩ Kr (sb 1))
      rintro k_2 ⟨hk_2,hI_2⟩
      refine TC.sr (TL.r 1 [] [(25,.b (decide ((k_2:Int)<(x.length:Int))))] {} (TL.ns (TC.cond (decide ((k_2:Int)<(x.length:Int))) rfl Kr (fun h4=>?_) (fun h4=>?_))))
      ·have hlt_2:=ltN h4
       obtain⟨x_2,hx_2⟩:=elN hlt_2
       have hd_2:=drop_at hx_2
       refine TC.sn (TC.seq (TC.block (TC.sr (TL.r 1 [] [(26,.i (k_2:Int))] {} (TL.v (sV (Instr.indexAt 83 (.slice ((o_feeds[k]?.getD Sl.zero).A) x.length ((o_feeds[k]?.getD Sl.zero).cap)) (.i (k_2:Int)))) 27 (.pointer (some ((((o_feeds[k]?.getD Sl.zero).A).getD Yb).add (k_2*6)))) (fun w hM=>Zr (Jv ((Q7 hd_feeds k).sat hM) (KA he_feeds hx)) (by simp) Kr sd sd) {} (TL.v (sV (Instr.loadAt 89 (.pointer (some ((((o_feeds[k]?.getD Sl.zero).A).getD Yb).add (k_2*6)))))) 28 (Zl.v x_2) (fun w hM=>Z6 (n:=6) (off:=0) (i:=k_2) (Zl.v x_2) (Jv ((Q7 hd_feeds k).sat hM) (KA he_feeds hx)) (ZA hx_2) Kr Kr Kr) {} (TL.nw 8 (fun b1=>.p0 b1) (fun b1=>Bk b1 (Zl.c Zl.zero) 89) (fun b1=>{}) (fun b1=>TL.r 5 [] [(7,.i (k_2:Int))] {} (TL.s 0 (Bk b1 (Zl.c x_2) 89) (fun _=>{}) (TL.ns (TC.sr (TL.r 1 [0] [(29,Zl.v x_2)] {} (TL.c 30 (ZL x_2) (fun r1=>.i r1) (fun w _=>JE x_2 w) {} (fun r1 hr1=>TL.r 3 [] [(9,.i r1)] {} (TL.nr (TL.r 2 [] [(32,.b (r1 != 0))] {} (TL.next rfl (TC.cond (r1 != 0) rfl Kr (fun h5=>?_) (fun h5=>?_)))))))))))))))))))
       ·refine TC.sr (TL.r 3 [] [(2,.slice none 0 0),(3,.i r1)] {} (TL.next rfl (TC.ret (TE.rt (TE.rb (TE.rt (TE.rt (TE.rb (TE.rt (TE.rt (TE.rb (TE.rt (TE.rt (TE.rb (TE.rt (TE.rt ?_))))))))))))))))
        have e:Y1 feeds=([],r1):=by subst hr1;unfold Y1;exact Zb h1 (X7 (hR.symm.trans (hI.trans (by rw[hd];exact Zb h3 (X7 (hR_2.symm.trans (hI_2.trans (by rw[hd_2];exact Zi h5 (rfl)))) rfl)))) rfl)
        refine TE.conv [Ow none 0 89 6 (([]:List Zl).map Zl.c),Bk b1 (Zl.c x_2) 89,Ow A_out c_out 89 6 (out.map Zl.c)] (fun _ hM=>hM.emptyrow none 89 6) ?_
        rw[e]
        exact TE.retM (.inl rfl) (none,0) [] (.tuple #[.slice none 0 0,.i r1]) {} rfl (fun _ hM=>hM.sub (sb 1))
       ·have q5_0:=(QG h5)
        refine TC.sn (TC.seq (TC.draw 13 Kr Kr Kr (TQ.r 3 [] [(36,.b (decide ((k_2:Int)>0)))] {} (TQ.split 36 (decide ((k_2:Int)>0)) Kr (fun h6=>?_) (fun h6=>?_)))))
        ·have q6_0:=(Z4 h6)
         refine TQ.r 8 [0] [(38,.i x_2.Time),(39,.slice ((o_feeds[k]?.getD Sl.zero).A) x.length ((o_feeds[k]?.getD Sl.zero).cap)),(41,.i (w64 ((k_2:Int)-1)))] {} (TQ.rw 41 (.i (w64 ((k_2:Int)-1))) (.i ((k_2-1:Nat):Int)) Kr (RF k_2 sd) (TQ.v (sV (Instr.indexAt 83 (.slice ((o_feeds[k]?.getD Sl.zero).A) x.length ((o_feeds[k]?.getD Sl.zero).cap)) (.i ((k_2-1:Nat):Int)))) 42 (.pointer (some ((((o_feeds[k]?.getD Sl.zero).A).getD Yb).add ((k_2-1)*6)))) (fun w hM=>Zr (Jv ((Q7 hd_feeds k).sat hM) (KA he_feeds hx)) (by simp) Kr sd sd) rfl {} (TQ.r 10 [] [(43,.pointer (some (((((o_feeds[k]?.getD Sl.zero).A).getD Yb).add ((k_2-1)*6)).add 1)))] {} (TQ.v (sV (Instr.loadAt 3 (.pointer (some (((((o_feeds[k]?.getD Sl.zero).A).getD Yb).add ((k_2-1)*6)).add 1))))) 44 (.i ((x[(k_2-1)]?.getD Zl.zero).Time)) (fun w hM=>Zs (off:=1) (i:=(k_2-1)) (.i ((x[(k_2-1)]?.getD Zl.zero).Time)) (Jv ((Q7 hd_feeds k).sat hM) (KA he_feeds hx)) (ZA (getD_at _ _ Zl.zero sd)) Kr Kr) rfl {} (TQ.r 13 [] [(46,.b (decide (x_2.Time<((x[(k_2-1)]?.getD Zl.zero).Time))))] {} (TQ.next rfl (TC.cond (decide (x_2.Time<((x[(k_2-1)]?.getD Zl.zero).Time))) rfl Kr (fun h7=>?_) (fun h7=>?_))))))))
         ·refine TC.sr (TL.r 2 [] [(2,.slice none 0 0),(3,.i 12)] {} (TL.next rfl (TC.ret (TE.rb (TE.rt (TE.rt (TE.rb (TE.rt (TE.rt (TE.rb (TE.rt (TE.rt (TE.rb (TE.rt (TE.rt ?_)))))))))))))))
          have e:Y1 feeds=([],12):=by subst hr1;unfold Y1;exact Zb h1 (X7 (hR.symm.trans (hI.trans (by rw[hd];exact Zb h3 (X7 (hR_2.symm.trans (hI_2.trans (by rw[hd_2];exact Zb h5 (Zi h6 (Zi h7 (rfl)))))) rfl)))) rfl)
          refine TE.conv [Ow none 0 89 6 (([]:List Zl).map Zl.c),Bk b1 (Zl.c x_2) 89,Ow A_out c_out 89 6 (out.map Zl.c)] (fun _ hM=>hM.emptyrow none 89 6) ?_
          rw[e]
          exact TE.retM (.inl rfl) (none,0) [] (.tuple #[.slice none 0 0,.i 12]) {} rfl (fun _ hM=>hM.sub (sb 1))
         ·have q7_0:=(Zo h7)
          exact TC.skip (TE.nb (TE.next (TC.region (TL.r 2 [] [(24,.i (w64 ((k_2:Int)+1)))] {} (TL.done rfl (TE.rw 24 (.i (w64 ((k_2:Int)+1))) (.i ((k_2+1:Nat):Int)) Kr (ZD k_2 (by omega)) (TE.again (x:=k_2) (k_2+1) ⟨by omega,hI_2.trans (by subst hr1;rw[hd_2];exact Zb h5 (Zi h6 (Zb h7 (rfl))))⟩ (mN hlt_2) Kr (sb 2))))))))
        ·have q6_0:=(Zo h6)
         exact TQ.r 13 [] [(46,.b false)] {} (TQ.next rfl (TC.condF rfl Kr (TC.skip (TE.nb (TE.next (TC.region (TL.r 2 [] [(24,.i (w64 ((k_2:Int)+1)))] {} (TL.done rfl (TE.rw 24 (.i (w64 ((k_2:Int)+1))) (.i ((k_2+1:Nat):Int)) Kr (ZD k_2 (by omega)) (TE.again (x:=k_2) (k_2+1) ⟨by omega,hI_2.trans (by subst hr1;rw[hd_2];exact Zb h5 (Zb h6 (rfl)))⟩ (mN hlt_2) Kr (sb 2)))))))))))
      ·have hd_2:=XL h4
       refine TC.exit (TE.et (TE.et (TE.exit_same ?_)))
       exact TE.cut () (hI_2.trans (by rw[hd_2];exact rfl)) Kr (sb 1)
     ·intro _ hJ_2
      refine TE.next (TC.region (TL.r 2 [] [(48,.slice A_out out.length c_out),(49,.slice ((o_feeds[k]?.getD Sl.zero).A) x.length ((o_feeds[k]?.getD Sl.zero).cap))] {} (TL.os (Γ:=AN) (sV (Builtin.append_ #[83,83] 83 #[.slice A_out out.length c_out,.slice ((o_feeds[k]?.getD Sl.zero).A) x.length ((o_feeds[k]?.getD Sl.zero).cap)])) 50 (fun g=>.slice g.1 (out++x).length g.2) 0 (fun g=>Ow g.1 g.2 89 6 ((out++x).map Zl.c)) (Qq (bytes:=48) 83 0 x Kr rfl rfl Zl.one rfl (fun w hM=>(Jv ((Q7 hd_feeds k).sat hM) (KA he_feeds hx))) rfl sa) {} ?_)))
      rintro⟨A,c⟩
      exact TL.r 4 [] [(4,.slice A ((out++x).length) c)] {} (TL.done rfl (TE.nb (TE.next (TC.region (TL.r 2 [] [(15,.i (w64 ((k:Int)+1)))] {} (TL.done rfl (TE.rw 15 (.i (w64 ((k:Int)+1))) (.i ((k+1:Nat):Int)) Kr (ZD k (by omega)) (TE.again (x:=(k,out,A_out,c_out)) (k+1,(out++x),A,c) ⟨by omega,hI.trans (by rw[hd];exact Zb h3 (XI (hR_2.symm.trans hJ_2) (rfl))),sl⟩ (mN hlt) Kr (sb 1)))))))))
   ·have hd:=XL h2
    refine TC.exit (TE.et (TE.et (TE.exit_same ?_)))
    exact TE.cut (out,A_out,c_out) (⟨hI.trans (by rw[hd];exact rfl),sl⟩) Kr (sb 1)
  ·rintro⟨out_2,A_out_2,c_out_2⟩ ⟨hJ,hl_out_2⟩
   refine TE.nr (TL.r 1 [] [(52,.slice A_out_2 out_2.length c_out_2)] {} (TL.callM (Γ:=(List Zl)) (fun _=>.tuple #[]) (fun g=>[.inr (X8 (g.length=out_2.length∧g=U6 out_2)),Ow A_out_2 c_out_2 89 6 (g.map Zl.c)]) [Ow A_out_2 c_out_2 89 6 (out_2.map Zl.c)] [] (some 53) (fun _=>[(4,.slice A_out_2 out_2.length c_out_2)]) (fun w hM=>TR A_out_2 c_out_2 out_2 w hM.pass) Kr (fun g=>Kr) ?_))
   rintro r2
   refine TL.conv [.inr (X8 (r2.length=out_2.length∧r2=U6 out_2)),Ow A_out_2 c_out_2 89 6 (r2.map Zl.c)] (fun _ hM=>hM) (TL.know (fun w hM=>hM.fact_at 0 rfl) (fun hp_sortPl=>TL.forget [Ow A_out_2 c_out_2 89 6 (r2.map Zl.c)] (.cons _ (List.Sublist.refl _)) ?_))
   have hl_r2:r2.length=out_2.length:=hp_sortPl.1
   refine TL.rw 4 (.slice A_out_2 out_2.length c_out_2) (.slice A_out_2 r2.length c_out_2) Kr (by rw[hl_r2]) ?_
   have hr2:U6 out_2=r2:=(hp_sortPl.2).symm
   refine TL.nr (TL.r 1 [] [(54,.slice A_out_2 r2.length c_out_2)] {} (TL.callM (Γ:=(List Zl)) (fun g=>.slice A_out_2 g.length c_out_2) (fun g=>[.inr (X8 (g=cpt Zl.eqb r2)),Ow A_out_2 c_out_2 89 6 (g.map Zl.c)]) [Ow A_out_2 c_out_2 89 6 (r2.map Zl.c)] [] (some 55) (fun g=>[(55,.slice A_out_2 g.length c_out_2)]) (fun w hM=>P7 A_out_2 c_out_2 r2 w hM.pass) Kr (fun g=>Kr) ?_))
   rintro r3
   refine TL.conv [.inr (X8 (r3=cpt Zl.eqb r2)),Ow A_out_2 c_out_2 89 6 (r3.map Zl.c)] (fun _ hM=>hM) (TL.know (fun w hM=>hM.fact_at 0 rfl) (fun hp_cmpct=>TL.forget [Ow A_out_2 c_out_2 89 6 (r3.map Zl.c)] (.cons _ (List.Sublist.refl _)) ?_))
   have hr3:cpt Zl.eqb r2=r3:=(hp_cmpct).symm
   refine TL.r 4 [] [(2,.slice A_out_2 r3.length c_out_2),(3,.i 0)] {} (TL.next rfl (TC.ret ?_))
   have e:Y1 feeds=(r3,0):=by subst hr2 hr3;unfold Y1;exact Zb h1 (XI (hR.symm.trans hJ) (rfl))
   rw[e]
   exact TE.retM (.inl rfl) (A_out_2,c_out_2) [] (.tuple #[.slice A_out_2 r3.length c_out_2,.i 0]) {} rfl (fun _ hM=>hM.sub (sb 1))
end Go.Sky
end
section
namespace Go.Sky
open Go Go.Eng Go.Proofs
def Xz (time:Int) (x:Zh):List Zn→Nat→(List Zl)→((List Zl) ⊕ ((List Zf)×Bool))
 | [],_,feed=>.inl feed
 | x_2::xs,k_2,feed=>let r1:=ZP x_2 time
  let r2:=Z3 x (⟨time,r1,x_2.height,x_2.code,0⟩:Zf)
  cond (r2.2 != 0) (
   .inr ([],false)) (
   Xz time x xs (k_2+1) (feed++([r2.1])))
def X0 (l:List Zn) (time:Int):List Zh→Nat→(List (List Zl))→((List (List Zl)) ⊕ ((List Zf)×Bool))
 | [],_,feeds=>.inl feeds
 | x::xs,k,feeds=>Sum.elim (fun feed_2 =>
   X0 l time xs (k+1) (feeds ++ [feed_2])) (fun r=>.inr r) (Xz time x l 0 ([]:List Zl))
def ZC (sites:List Zh) (l:List Zn) (time:Int):List Zf×Bool :=
 Sum.elim (fun feeds_2 =>
  let r3:=Y1 feeds_2
  cond (r3.2 != 0) (
   ([],false)) (
   let r4:=Xg sites r3.1
   (r4.1,r4.2==0))) (fun r=>r) (X0 l time sites 0 ([]:List (List Zl)))
set_option maxHeartbeats 4000000 in
set_option maxRecDepth 100000 in
theorem G1 (A_sites:Option Addr) (c_sites:Nat) (sites:List Zh) (A_l:Option Addr) (c_l:Nat) (l:List Zn) (time:Int) (w:World) (h_sites:Rd w 6 A_sites (sites.map Zh.c)) (hc_sites:sites.length≤c_sites) (h_l:Rd w 6 A_l (l.map Zn.c)) (_hc_l:l.length≤c_l) (hT:Ua w) (hn:sites.length≤4∧l.length≤4):Calls Tryz.prog 21 #[.slice A_sites sites.length c_sites,.slice A_l l.length c_l,.int .i64 time] w (QK (Γ:=(Option Addr×Nat)) (cx w) (fun g=>.tuple #[.slice g.1 ((ZC sites l time).1.length) g.2,.bool ((ZC sites l time).2)]) (fun g=>[.inr (Own g.1 g.2 42 6 (((ZC sites l time).1).map Zf.c))])):=by
 have s_sites:=h_sites.short;rw[List.length_map] at s_sites
 have s_l:=h_l.short;rw[List.length_map] at s_l
 refine Zk (vs:=[.slice A_sites sites.length c_sites,.slice A_l l.length c_l,.i time]) (w:=w) Tryz.func21 rfl Tryz.ntmps21 rfl (TC.sr (TL.r 2 [] [(6,.slice none 0 0),(7,.b false)] {} (TL.nr (TL.r 1 [] [(8,.slice none 0 0)] {} (TL.ns (TC.sr (TL.r 3 [] [(19,.slice A_sites sites.length c_sites),(20,.i (sites.length:Int)),(21,.i 0)] {} (TL.next rfl (TC.conv [Ow none 0 83 1 (([]:List (Sl Zl)).map Sl.c),.inr (Bag 89 6 Zl.c ([]:List (Sl Zl)))] (fun _ hM=>(hM.bag_nil 89 6 Zl.c).emptyrow none 83 1) ?_)))))))))
 obtain⟨R2,hR⟩:∃ R,R=X0 l time sites 0 ([]:List (List Zl)):=⟨_,rfl⟩
 refine TC.cut (S:=(List (List Zl))×(Option Addr)×Nat×(List (Sl Zl))) (fun (feeds_2,A_feeds_2,c_feeds_2,o_feeds_2)=>[(0,.slice A_sites sites.length c_sites),(8,.slice A_feeds_2 feeds_2.length c_feeds_2)]) (fun (feeds_2,A_feeds_2,c_feeds_2,o_feeds_2)=>[Ow A_feeds_2 c_feeds_2 83 1 (o_feeds_2.map Sl.c),.inr (Bag 89 6 Zl.c o_feeds_2)]) (fun (feeds_2,A_feeds_2,c_feeds_2,o_feeds_2)=>R2=.inl feeds_2∧feeds_2.length≤sites.length∧(feeds_2=o_feeds_2.map Sl.l)) ?_ ?_
 ·refine TC.block (TC.lw (X:=Nat×(List (List Zl))×(Option Addr)×Nat×(List (Sl Zl))) (fun (k,feeds,A_feeds,c_feeds,o_feeds)=>[(0,.slice A_sites sites.length c_sites),(1,.slice A_l l.length c_l),(2,.i time),(8,.slice A_feeds feeds.length c_feeds),(19,.slice A_sites sites.length c_sites),(20,.i (sites.length:Int)),(21,.i (k:Int))]) (fun (k,feeds,A_feeds,c_feeds,o_feeds)=>[Ow A_feeds c_feeds 83 1 (o_feeds.map Sl.c),.inr (Bag 89 6 Zl.c o_feeds)]) (fun (k,feeds,A_feeds,c_feeds,o_feeds)=>sites.length-k) (fun (k,feeds,A_feeds,c_feeds,o_feeds)=>k≤sites.length∧R2=X0 l time (sites.drop k) k feeds∧feeds.length≤k∧(feeds=o_feeds.map Sl.l)) ?_ (0,([]:List (List Zl)),none,0,([]:List (Sl Zl))) ⟨Nat.zero_le _,hR,sz,rfl⟩ Kr (sb 3))
  rintro⟨k,feeds,A_feeds,c_feeds,o_feeds⟩ ⟨hk,hI,hl_feeds,hl_he_feeds⟩
  refine TC.sr (TL.r 1 [] [(22,.b (decide ((k:Int)<(sites.length:Int))))] {} (TL.ns (TC.cond (decide ((k:Int)<(sites.length:Int))) rfl Kr (fun h1=>?_) (fun h1=>?_))))
  ·have hlt:=ltN h1
   obtain⟨x,hx⟩:=elN hlt
   have hd:=drop_at hx
   refine TC.sn (TC.seq (TC.block (TC.sr (TL.v (sV (Instr.indexAt 55 (.slice A_sites sites.length c_sites) (.i (k:Int)))) 23 (.pointer (some (Ix A_sites (k*6)))) (fun w hM=>Zr (h_sites.sat hM) (by simp) Kr sd sd) {} (TL.v (sV (Instr.loadAt 85 (.pointer (some (Ix A_sites (k*6)))))) 24 (Zh.v x) (fun w hM=>Z6 (n:=6) (off:=0) (i:=k) (Zh.v x) (h_sites.sat hM) (ZA hx) Kr Kr Kr) {} (TL.nw 10 (fun b1=>.p0 b1) (fun b1=>Bk b1 (Zh.c Zh.zero) 85) (fun b1=>{}) (fun b1=>TL.s 0 (Bk b1 (Zh.c x) 85) (fun _=>{}) (TL.nr (TL.r 1 [] [(11,.slice none 0 0)] {} (TL.ns (TC.sr (TL.r 3 [] [(25,.slice A_l l.length c_l),(26,.i (l.length:Int)),(27,.i 0)] {} (TL.next rfl (TC.conv [Ow none 0 89 6 (([]:List Zl).map Zl.c),Bk b1 (Zh.c x) 85,Ow A_feeds c_feeds 83 1 (o_feeds.map Sl.c),.inr (Bag 89 6 Zl.c o_feeds)] (fun _ hM=>hM.emptyrow none 89 6) ?_))))))))))))))
   obtain⟨R4,hR_2⟩:∃ R,R=Xz time x l 0 ([]:List Zl):=⟨_,rfl⟩
   refine TC.cut (S:=(List Zl)×(Option Addr)×Nat) (fun (feed_2,A_feed_2,c_feed_2)=>[(0,.slice A_sites sites.length c_sites),(1,.slice A_l l.length c_l),(2,.i time),(8,.slice A_feeds feeds.length c_feeds),(11,.slice A_feed_2 feed_2.length c_feed_2),(19,.slice A_sites sites.length c_sites),(20,.i (sites.length:Int)),(21,.i (k:Int))]) (fun (feed_2,A_feed_2,c_feed_2)=>[Ow A_feed_2 c_feed_2 89 6 (feed_2.map Zl.c),Ow A_feeds c_feeds 83 1 (o_feeds.map Sl.c),.inr (Bag 89 6 Zl.c o_feeds)]) (fun (feed_2,A_feed_2,c_feed_2)=>R4=.inl feed_2∧feed_2.length≤l.length) ?_ ?_
   ·refine TC.block (TC.lw (X:=Nat×(List Zl)×(Option Addr)×Nat) (fun (k_2,feed,A_feed,c_feed)=>[(0,.slice A_sites sites.length c_sites),(1,.slice A_l l.length c_l),(2,.i time),(8,.slice A_feeds feeds.length c_feeds),(10,.p0 b1),(11,.slice A_feed feed.length c_feed),(19,.slice A_sites sites.length c_sites),(20,.i (sites.length:Int)),(21,.i (k:Int)),(25,.slice A_l l.length c_l),(26,.i (l.length:Int)),(27,.i (k_2:Int))]) (fun (k_2,feed,A_feed,c_feed)=>[Ow A_feed c_feed 89 6 (feed.map Zl.c),Bk b1 (Zh.c x) 85,Ow A_feeds c_feeds 83 1 (o_feeds.map Sl.c),.inr (Bag 89 6 Zl.c o_feeds)]) (fun (k_2,feed,A_feed,c_feed)=>l.length-k_2) (fun (k_2,feed,A_feed,c_feed)=>k_2≤l.length∧R4=Xz time x (l.drop k_2) k_2 feed∧feed.length≤k_2) ?_ (0,([]:List Zl),none,0) ⟨Nat.zero_le _,hR_2,sz⟩ Kr (sb 15))
    rintro⟨k_2,feed,A_feed,c_feed⟩ ⟨hk_2,hI_2,hl_feed⟩
    refine TC.sr (TL.r 1 [] [(28,.b (decide ((k_2:Int)<(l.length:Int))))] {} (TL.ns (TC.cond (decide ((k_2:Int)<(l.length:Int))) rfl Kr (fun h2=>?_) (fun h2=>?_))))
    ·have hlt_2:=ltN h2
     obtain⟨x_2,hx_2⟩:=elN hlt_2
     have hd_2:=drop_at hx_2
     refine TC.sn (TC.seq (TC.block (TC.sr (TL.v (sV (Instr.indexAt 23 (.slice A_l l.length c_l) (.i (k_2:Int)))) 29 (.pointer (some (Ix A_l (k_2*6)))) (fun w hM=>Zr (h_l.sat hM) (by simp) Kr sd sd) {} (TL.v (sV (Instr.loadAt 38 (.pointer (some (Ix A_l (k_2*6)))))) 30 (Zn.v x_2) (fun w hM=>Z6 (n:=6) (off:=0) (i:=k_2) (Zn.v x_2) (h_l.sat hM) (ZA hx_2) Kr Kr Kr) {} (TL.nw 13 (fun b2=>.p0 b2) (fun b2=>Bk b2 (Zn.c Zn.zero) 38) (fun b2=>{}) (fun b2=>TL.s 0 (Bk b2 (Zn.c x_2) 38) (fun _=>{}) (TL.ns ?_))))))))
     obtain⟨r1,hr1⟩:∃ r,ZP x_2 time=r:=⟨_,rfl⟩
     obtain⟨r2,hr2⟩:∃ r,Z3 x (⟨time,r1,x_2.height,x_2.code,0⟩:Zf)=r:=⟨_,rfl⟩
     let Mr9_:Mem:=[Bk b2 (Zn.c x_2) 38,Ow A_feed c_feed 89 6 (feed.map Zl.c),Bk b1 (Zh.c x) 85,Ow A_feeds c_feeds 83 1 (o_feeds.map Sl.c),.inr (Bag 89 6 Zl.c o_feeds)]
     refine TC.plan (G:=Nat) (base:=[(0,.slice A_sites sites.length c_sites),(1,.slice A_l l.length c_l),(2,.i time),(8,.slice A_feeds feeds.length c_feeds),(10,.p0 b1),(11,.slice A_feed feed.length c_feed),(13,.p0 b2),(19,.slice A_sites sites.length c_sites),(20,.i (sites.length:Int)),(21,.i (k:Int)),(25,.slice A_l l.length c_l),(26,.i (l.length:Int)),(27,.i (k_2:Int))]) (vals:=fun γ=>[Zh.v x,.i time,Zn.v x_2,.i time,P.v r1,.pt b2 4,.i x_2.height,.pt b2 5,.i x_2.code,Zf.v (⟨time,r1,x_2.height,x_2.code,0⟩:Zf),.tuple #[Zl.v r2.1,.i r2.2],.tuple #[Zl.v r2.1,.i r2.2],Zl.v r2.1,.i r2.2,.p0 γ,undef,.i r2.2]) (writes:=[14,15]) (mem:=fun bs γ=>match bs with | [x14_,x15_]=>(bif x15_ then [Bk γ (Zl.c r2.1) 89] else bif x14_ then [Bk γ (Zl.c Zl.zero) 89] else [])++(Mr9_)|_=>[]) (0) (fun γ=>[(0,.slice A_sites sites.length c_sites),(1,.slice A_l l.length c_l),(2,.i time),(8,.slice A_feeds feeds.length c_feeds),(10,.p0 b1),(11,.slice A_feed feed.length c_feed),(14,.p0 γ),(15,.i r2.2),(19,.slice A_sites sites.length c_sites),(20,.i (sites.length:Int)),(21,.i (k:Int)),(25,.slice A_l l.length c_l),(26,.i (l.length:Int)),(27,.i (k_2:Int))]) Kr Kr Kr Kr Kr (fun γ=>Kr) (fun _ hM=>hM) (fun γ=>Kr) ?_ ?_
     ·skip
      exact Steps.run (i:=0) 4 [2,0,0,0] Mr9_ Kr Kr (fun S (γ:Nat) w hM=>by rw[mS2 rfl rfl] at hM;exact hM.sub (Zj (List.Sublist.refl _))) Kr (fun (γ:Nat)=>{}) (Steps.call (i:=4) 16 (fun (γ:Nat)=>#[Zn.v x_2,.i time]) (some 36) (fun (γ:Nat)=>P.v r1) (fun (γ:Nat)=>[Bk b2 (Zn.c x_2) 38,Ow A_feed c_feed 89 6 (feed.map Zl.c),Bk b1 (Zh.c x) 85,Ow A_feeds c_feeds 83 1 (o_feeds.map Sl.c),.inr (Bag 89 6 Zl.c o_feeds)]) Kr (fun S (γ:Nat) w _ hM=>by rw[mS2 rfl rfl] at hM;exact hM.sub (Zj (List.Sublist.refl _))) (fun (γ:Nat) w _=>by have h:=Ju x_2 time w;rw[hr1] at h;exact h) (fun (γ:Nat)=>Kr) (fun (γ:Nat)=>Kr) (Steps.run (i:=5) 10 [0,0,0,0,0] Mr9_ Kr Kr (fun S (γ:Nat) w hM=>by rw[mS2 rfl rfl] at hM;exact hM.sub (Zj (List.Sublist.refl _))) Kr (fun (γ:Nat)=>{}) (Steps.call (i:=10) 32 (fun (γ:Nat)=>#[Zh.v x,Zf.v (⟨time,r1,x_2.height,x_2.code,0⟩:Zf)]) (some 42) (fun (γ:Nat)=>.tuple #[Zl.v r2.1,.i r2.2]) (fun (γ:Nat)=>[Bk b2 (Zn.c x_2) 38,Ow A_feed c_feed 89 6 (feed.map Zl.c),Bk b1 (Zh.c x) 85,Ow A_feeds c_feeds 83 1 (o_feeds.map Sl.c),.inr (Bag 89 6 Zl.c o_feeds)]) Kr (fun S (γ:Nat) w _ hM=>by rw[mS2 rfl rfl] at hM;exact hM.sub (Zj (List.Sublist.refl _))) (fun (γ:Nat) w hM=>by have h:=DF x (⟨time,r1,x_2.height,x_2.code,0⟩:Zf) w (hT.sat hM);rw[hr2] at h;exact h) (fun (γ:Nat)=>Kr) (fun (γ:Nat)=>Kr) (Steps.run (i:=11) 14 [0,0,0] Mr9_ Kr Kr (fun S (γ:Nat) w hM=>by rw[mS2 rfl rfl] at hM;exact hM.sub (Zj (List.Sublist.refl _))) Kr (fun (γ:Nat)=>{}) (Steps.op (i:=14) (Γ:=Nat) (fun g (γ:Nat)=>g) (fun _=>[]) (fun b (γ:Nat)=>[Bk b (Zl.c Zl.zero) 89]) (fun S (γ:Nat)=>Mr9_) [14,15,16] (fun (γ:Nat)=>sV (Instr.alloc 89 true (.tuple #[]))) (some 14) (fun b (γ:Nat)=>.p0 b) (fun S (γ:Nat) hj hd hl=>by rw[mS2 hj (hl 15 Kr)];exact List.Perm.refl _) (fun S (γ:Nat) g hl=>by rw[mS2 (S:=upS S 14) (a0:=14) (a1:=15) rfl (hl 15 Kr)];exact(List.Perm.refl _).symm) (fun (γ:Nat) M' w hM=>Qx (v:=fun b=>.p0 b) (fun b M=>Kr) M' w hM) (fun (γ:Nat)=>Kr) (fun (γ:Nat) g=>Kr) Kr (fun (γ:Nat) g=>Kr) (Steps.put (i:=15) (fun (γ:Nat)=>[Bk γ (Zl.c Zl.zero) 89]) (fun (γ:Nat)=>[Bk γ (Zl.c r2.1) 89]) (fun S (γ:Nat)=>Mr9_) (fun (γ:Nat)=>sU (Instr.storeAt 89 (.p0 γ) (Zl.v r2.1))) none (fun S (γ:Nat) hj hd hl=>by rw[mS2 (hd 14 Kr) hj];exact List.Perm.refl _) (fun S (γ:Nat) _=>(List.Perm.refl _).symm) (fun (γ:Nat) M' w hM=>QP (fun b M=>Kr) (fun b M=>Kr) M' w hM) (fun (γ:Nat)=>Kr) (fun (γ:Nat)=>Kr) (Steps.run (i:=16) 17 [0] Mr9_ Kr Kr (fun S (γ:Nat) w hM=>by rw[mS2 rfl rfl] at hM;exact hM.sub (Zj (List.Sublist.refl _))) Kr (fun (γ:Nat)=>{}) (Steps.done Kr))))))))
     ·rintro b3
      refine TE.conv [Bk b3 (Zl.c r2.1) 89,Bk b2 (Zn.c x_2) 38,Ow A_feed c_feed 89 6 (feed.map Zl.c),Bk b1 (Zh.c x) 85,Ow A_feeds c_feeds 83 1 (o_feeds.map Sl.c),.inr (Bag 89 6 Zl.c o_feeds)] (fun _ hM=>hM) (TE.next (TC.seq (TC.sr (TL.r 2 [] [(46,.b (r2.2 != 0))] {} (TL.next rfl (TC.cond (r2.2 != 0) rfl Kr (fun h3=>?_) (fun h3=>?_)))))))
      ·refine TC.sr (TL.r 2 [] [(6,.slice none 0 0),(7,.b false)] {} (TL.next rfl (TC.ret (TE.rt (TE.rb (TE.rt (TE.rt (TE.rb (TE.rt (TE.rt (TE.rb (TE.rt (TE.rt (TE.rb (TE.rt (TE.rt ?_))))))))))))))))
       have e:ZC sites l time=([],false):=by subst hr1 hr2;unfold ZC;exact X7 (hR.symm.trans (hI.trans (by rw[hd];exact X7 (hR_2.symm.trans (hI_2.trans (by rw[hd_2];exact Zi h3 (rfl)))) rfl))) rfl
       refine TE.conv [Ow none 0 42 6 (([]:List Zf).map Zf.c),Bk b3 (Zl.c r2.1) 89,Bk b2 (Zn.c x_2) 38,Ow A_feed c_feed 89 6 (feed.map Zl.c),Bk b1 (Zh.c x) 85,Ow A_feeds c_feeds 83 1 (o_feeds.map Sl.c),.inr (Bag 89 6 Zl.c o_feeds)] (fun _ hM=>hM.emptyrow none 42 6) ?_
       rw[e]
       exact TE.retM (.inl rfl) (none,0) [] (.tuple #[.slice none 0 0,.b false]) {} rfl (fun _ hM=>hM.sub (sb 1))
      ·have q3_0:=(QG h3)
       refine TC.sn (TC.region (TL.r 2 [0] [(47,.slice A_feed feed.length c_feed),(48,Zl.v r2.1)] {} (TL.nw 49 (fun b4=>.slice (Pa b4) 1 1) (fun b4=>Bk b4 (Zl.c r2.1) 89) (fun b4=>{}) (fun b4=>TL.os (Γ:=AN) (sV (Builtin.append_ #[83,83] 83 #[.slice A_feed feed.length c_feed,.slice (Pa b4) 1 1])) 50 (fun g=>.slice g.1 (feed++([r2.1])).length g.2) 3 (fun g=>Ow g.1 g.2 89 6 ((feed++([r2.1])).map Zl.c)) (Qq (bytes:=48) 83 3 ([r2.1]) Kr rfl rfl Zl.one rfl (fun w hM=>(Rd.lit hM 0 _ rfl Kr Kr Kr)) rfl sa) {} ?_))))
       rintro⟨A,c⟩
       exact TL.r 5 [] [(11,.slice A ((feed++([r2.1])).length) c)] {} (TL.done rfl (TE.nb (TE.next (TC.region (TL.r 2 [] [(27,.i (w64 ((k_2:Int)+1)))] {} (TL.done rfl (TE.rw 27 (.i (w64 ((k_2:Int)+1))) (.i ((k_2+1:Nat):Int)) Kr (ZD k_2 (by omega)) (TE.again (x:=(k_2,feed,A_feed,c_feed)) (k_2+1,(feed++([r2.1])),A,c) ⟨by omega,hI_2.trans (by subst hr1 hr2;rw[hd_2];exact Zb h3 (rfl)),sl⟩ (mN hlt_2) Kr (sb 120)))))))))
    ·have hd_2:=XL h2
     refine TC.exit (TE.et (TE.et (TE.exit_same ?_)))
     exact TE.cut (feed,A_feed,c_feed) (⟨hI_2.trans (by rw[hd_2];exact rfl),sl⟩) Kr (sb 13)
   ·rintro⟨feed_2,A_feed_2,c_feed_2⟩ ⟨hJ_2,hl_feed_2⟩
    refine TE.next (TC.region (TL.r 2 [] [(52,.slice A_feeds feeds.length c_feeds),(53,.slice A_feed_2 feed_2.length c_feed_2)] {} (TL.nw 54 (fun b5=>.slice (Pa b5) 1 1) (fun b5=>Bk b5 #[.slice A_feed_2 feed_2.length c_feed_2] 83) (fun b5=>{}) (fun b5=>TL.rw 52 (.slice A_feeds feeds.length c_feeds) (.slice A_feeds o_feeds.length c_feeds) Kr (by rw[JU hl_he_feeds]) (TL.opM (Γ:=AN) (sV (Builtin.append_ #[128,128] 128 #[.slice A_feeds o_feeds.length c_feeds,.slice (Pa b5) 1 1])) (some 55) (fun g=>.slice g.1 (o_feeds ++ [(⟨A_feed_2,c_feed_2,feed_2⟩:Sl Zl)]).length g.2) (fun g=>[Bk b5 #[.slice A_feed_2 feed_2.length c_feed_2] 83,Ow A_feed_2 c_feed_2 89 6 (feed_2.map Zl.c),Ow g.1 g.2 83 1 ((o_feeds ++ [(⟨A_feed_2,c_feed_2,feed_2⟩:Sl Zl)]).map Sl.c),.inr (Bag 89 6 Zl.c o_feeds)]) (fun g=>[(0,.slice A_sites sites.length c_sites),(1,.slice A_l l.length c_l),(2,.i time),(19,.slice A_sites sites.length c_sites),(20,.i (sites.length:Int)),(21,.i (k:Int)),(55,.slice g.1 ((o_feeds ++ [(⟨A_feed_2,c_feed_2,feed_2⟩:Sl Zl)]).length) g.2)]) (Qq (bytes:=24) 128 2 [(⟨A_feed_2,c_feed_2,feed_2⟩:Sl Zl)] Kr rfl rfl Sl.one rfl (fun w hM=>(Rd.lit hM 0 _ rfl Kr Kr Kr)) rfl (by have hz_:=JU hl_he_feeds;rw[← hz_];exact sa)) Kr (fun g=>Kr) ?_)))))
    rintro⟨A_2,c_2⟩
    exact TL.rw 55 (.slice A_2 ((o_feeds ++ [(⟨A_feed_2,c_feed_2,feed_2⟩:Sl Zl)]).length) c_2) (.slice A_2 ((feeds ++ [feed_2]).length) c_2) Kr (by rw[← JU (BK (s:=(⟨A_feed_2,c_feed_2,feed_2⟩:Sl Zl)) hl_he_feeds)]) (TL.conv [.inr (Bag 89 6 Zl.c (o_feeds ++ [(⟨A_feed_2,c_feed_2,feed_2⟩:Sl Zl)])),Bk b5 #[.slice A_feed_2 feed_2.length c_feed_2] 83,Ow A_2 c_2 83 1 ((o_feeds ++ [(⟨A_feed_2,c_feed_2,feed_2⟩:Sl Zl)]).map Sl.c)] (fun _ hM=>Sat.bag_add (hM.perm (((List.Perm.cons _ (List.Perm.refl _)).trans (List.Perm.swap _ _ _)).trans (List.Perm.cons _ (((List.Perm.cons _ ((List.Perm.cons _ (List.Perm.refl _)).trans (List.Perm.swap _ _ _))).trans (List.Perm.swap _ _ _)).trans (List.Perm.cons _ (List.Perm.refl _))))))) (TL.conv [Ow A_2 c_2 83 1 ((o_feeds ++ [(⟨A_feed_2,c_feed_2,feed_2⟩:Sl Zl)]).map Sl.c),.inr (Bag 89 6 Zl.c (o_feeds ++ [(⟨A_feed_2,c_feed_2,feed_2⟩:Sl Zl)])),Bk b5 #[.slice A_feed_2 feed_2.length c_feed_2] 83] (fun _ hM=>hM.perm (px [2,0,1])) (TL.r 5 [] [(8,.slice A_2 ((feeds ++ [feed_2]).length) c_2)] {} (TL.done rfl (TE.nb (TE.next (TC.region (TL.r 2 [] [(21,.i (w64 ((k:Int)+1)))] {} (TL.done rfl (TE.rw 21 (.i (w64 ((k:Int)+1))) (.i ((k+1:Nat):Int)) Kr (ZD k (by omega)) (TE.again (x:=(k,feeds,A_feeds,c_feeds,o_feeds)) (k+1,(feeds ++ [feed_2]),A_2,c_2,(o_feeds ++ [(⟨A_feed_2,c_feed_2,feed_2⟩:Sl Zl)])) ⟨by omega,hI.trans (by rw[hd];exact XI (hR_2.symm.trans hJ_2) (rfl)),sl,(BK (s:=(⟨A_feed_2,c_feed_2,feed_2⟩:Sl Zl)) hl_he_feeds)⟩ (mN hlt) Kr (sb 3))))))))))))
  ·have hd:=XL h1
   refine TC.exit (TE.et (TE.et (TE.exit_same ?_)))
   exact TE.cut (feeds,A_feeds,c_feeds,o_feeds) (⟨hI.trans (by rw[hd];exact rfl),sl,hl_he_feeds⟩) Kr (sb 3)
 ·rintro⟨feeds_2,A_feeds_2,c_feeds_2,o_feeds_2⟩ ⟨hJ,hl_feeds_2,hl_he_feeds_2⟩
  refine TE.nr (TL.r 1 [] [(58,.slice A_feeds_2 feeds_2.length c_feeds_2)] {} (TL.cn (Γ:=AN) 59 (Y1 feeds_2) (fun r3 g=>.tuple #[.slice g.1 r3.1.length g.2,.i r3.2]) (fun r3 g=>[Ow g.1 g.2 89 6 (r3.1.map Zl.c)]) (fun w hM=>HC A_feeds_2 c_feeds_2 feeds_2 o_feeds_2 w (hM.rd_at 0 rfl) (RP hl_he_feeds_2 (hM.le_at 0 rfl)) (hM.bag_at 1 rfl) hl_he_feeds_2) {} (fun r3 hr3=>?_)))
  rintro⟨A_3,c_3⟩
  refine TL.know (fun w hM=>hM.short_at 0 rfl) (fun s_r3_0=>TL.r 7 [] [(16,.slice A_3 r3.1.length c_3),(17,.i r3.2)] {} (TL.ns (TC.sr (TL.r 2 [] [(63,.b (r3.2 != 0))] {} (TL.next rfl (TC.cond (r3.2 != 0) rfl Kr (fun h4=>?_) (fun h4=>?_)))))))
  ·refine TC.sr (TL.r 2 [] [(6,.slice none 0 0),(7,.b false)] {} (TL.next rfl (TC.ret (TE.rt ?_))))
   have e:ZC sites l time=([],false):=by subst hr3;unfold ZC;exact XI (hR.symm.trans hJ) (Zi h4 (rfl))
   refine TE.conv [Ow none 0 42 6 (([]:List Zf).map Zf.c),Ow A_3 c_3 89 6 (r3.1.map Zl.c),Ow A_feeds_2 c_feeds_2 83 1 (o_feeds_2.map Sl.c),.inr (Bag 89 6 Zl.c o_feeds_2)] (fun _ hM=>hM.emptyrow none 42 6) ?_
   rw[e]
   exact TE.retM (.inl rfl) (none,0) [] (.tuple #[.slice none 0 0,.b false]) {} rfl (fun _ hM=>hM.sub (sb 1))
  ·refine TC.snr (TL.r 2 [] [(65,.slice A_sites sites.length c_sites),(66,.slice A_3 r3.1.length c_3)] {} (TL.cn (Γ:=AN) 67 (Xg sites r3.1) (fun r4 g=>.tuple #[.slice g.1 r4.1.length g.2,.i r4.2]) (fun r4 g=>[Ow g.1 g.2 42 6 (r4.1.map Zf.c)]) (fun w hM=>HA A_sites c_sites sites A_3 c_3 r3.1 w (h_sites.sat hM) hc_sites (hM.rd_at 0 rfl) (hM.le_at 0 rfl) (hT.sat hM)) {} (fun r4 hr4=>?_)))
   rintro⟨A_4,c_4⟩
   refine TL.know (fun w hM=>hM.short_at 0 rfl) (fun s_r4_0=>TL.r 8 [] [(17,.i r4.2),(18,.slice A_4 r4.1.length c_4)] {} (TL.nr (TL.r 5 [] [(6,.slice A_4 r4.1.length c_4),(7,.b (r4.2==0))] {} (TL.next rfl (TC.ret ?_)))))
   have e:ZC sites l time=(r4.1,r4.2==0):=by subst hr3 hr4;unfold ZC;exact XI (hR.symm.trans hJ) (Zb h4 (rfl))
   rw[e]
   exact TE.retM (.inl rfl) (A_4,c_4) [] (.tuple #[.slice A_4 r4.1.length c_4,.b (r4.2==0)]) {} rfl (fun _ hM=>hM.sub (sb 1))
end Go.Sky
end
section
namespace Go.Sky
open Go Go.Eng Go.Glue Go.Srt
def JG:Zh:=⟨2,⟨30000,40000⟩,400000,80,3⟩
structure Site (s:Zh):Prop where
 chk:Yc s=0
 x:-20000≤s.At.X∧s.At.X≤30000
 y:0≤s.At.Y∧s.At.Y≤40000
 reach:s.Reach=400000
 rerr:s.RangeError≤80
 aerr:s.AzimuthError≤3
theorem G2:Site J7:=⟨by kernel_rfl,by decide,by decide,rfl,by decide,by decide⟩
theorem HD:Site JG:=⟨by kernel_rfl,by decide,by decide,rfl,by decide,by decide⟩
theorem Vs {s:Zh} (hs:Site s) {f:Zn} (h:QY f) {t:Int} (ht:0≤t∧t≤200):(Z3 s (QD f t)).2=0:=by
 have p:=VY h ht
 have hx:=hs.x;have hy:=hs.y
 refine Rl hs.chk (MH h ht) ?_
 unfold QD
 simp only
 rw[p.1,hs.reach]
 exact MI (X:=130000) (Y:=120000) (by unfold PIn;omega) (by unfold PIn;simp only;omega) (by decide) (by simp only;omega) (by simp only;omega) (by decide)
theorem DR {s:Zh} (hs:Site s) {f:Zn} (h:QY f) {T:Nat} (hT:T≤200) :
  (ZG s (Z3 s (QD f (T:Int))).1).2=0∧V4 (ZG s (Z3 s (QD f (T:Int))).1).1 (T:Int) f.height f.code (Jj f T):=by
 have ht:0≤(T:Int)∧(T:Int)≤200:=by omega
 have hp:=Vs hs h ht
 have hk:=UM hp
 have hra:=H8 hp
 have haz:=VE hp
 have hpo:=Kq hp
 have pl:=VY h ht
 have hsx:=hs.x;have hsy:=hs.y
 have pi:PIn (QD f (T:Int)).At:=by unfold QD PIn;simp only;rw[pl.1];simp only;omega
 have si:PIn s.At:=by unfold PIn;omega
 have q:=Un si pi
 have a:=Uc (x:=s.At.X-(QD f (T:Int)).At.X) (n:=125000) (by unfold QD;simp only;rw[pl.1];simp only;omega)
 have b:=Uc (x:=s.At.Y-(QD f (T:Int)).At.Y) (n:=115000) (by unfold QD;simp only;rw[pl.1];simp only;omega)
 have hrange:(Z3 s (QD f (T:Int))).1.Range≤175000:=by
  rw[hpo.2.2.2.2]
  have r:=DN (n:=ZV s.At (QD f (T:Int)).At) (by rw[q.1];exact⟨by omega,q.2⟩)
  simp only
  rcases Int.lt_or_le 175000 (X4 (ZV s.At (QD f (T:Int)).At)) with g|g
  ·exfalso
   have:=Int.mul_le_mul (Int.le_of_lt g) (Int.le_of_lt g) (by decide) r.1
   rw[q.1] at r this
   omega
  ·exact g
 have hx:=Rm (s:=s) (p:=(Z3 s (QD f (T:Int))).1) hs.chk hk.1 hk.2 ⟨hra.1,by omega⟩ haz (by omega) (by omega)
 have hh:=MJ hp hx
 obtain⟨_,_,_,vx,vy,_,_,_,xi,xe,_,xt,xh,xc⟩:=W8 hx
 have e0:=O1 hx
 have re:=hs.rerr;have ae:=hs.aerr;have ae0:=hpo.2.1.aerr
 have m:(Z3 s (QD f (T:Int))).1.Range*s.AzimuthError≤175000*3:=Int.mul_le_mul hrange ae (by omega) (by decide)
 refine⟨hx,?_,?_,?_,?_,?_⟩
 ·rw[xt,hpo.2.2.2.2];rfl
 ·rw[xh,hpo.2.2.2.2];rfl
 ·rw[xc,hpo.2.2.2.2];rfl
 ·refine⟨e0.1,?_⟩
  rw[xe]
  omega
 ·have wy:(QD f (T:Int)).At=Jj f T:=Bq h hT
  rw[DK xi pi,wy] at hh
  exact⟨e0.1,hh⟩
def MM (fs:List Zn) (T:Int) (p:Zl) (s:Zh) (f:Zn):Prop:=(s=J7∨s=JG)∧f∈fs∧p=(Z3 s (QD f T)).1
theorem W9 {s:Zh} (h:s=J7∨s=JG):Site s:=by
 rcases h with rfl|rfl
 ·exact G2
 ·exact HD
theorem TS {p:Zl} {s:Zh} (h:s.ID≠p.Radar) (xs:List Zh) (k:Nat) (out:List Zf):Y0 p (s::xs) k out=Y0 p xs (k+1) out:=by
 rw[Y0,show (s.ID != p.Radar)=true by simpa using h,cond_true]
theorem L8 {p:Zl} {s:Zh} (h:p.Radar=s.ID) (h0:(ZG s p).2=0) (xs:List Zh) (k:Nat) (out:List Zf):Y0 p (s::xs) k out=Y0 p xs (k+1) (out ++ [(ZG s p).1]):=by
 rw[Y0,show (s.ID != p.Radar)=false by simp[h],cond_false]
 simp only
 rw[h0]
 rfl
theorem Ro {p:Zl} {s:Zh} (hs:s=J7∨s=JG) (hr:p.Radar=s.ID) (h0:(ZG s p).2=0) (out:List Zf):Y0 p [J7,JG] 0 out=out ++ [(ZG s p).1]:=by
 rcases hs with rfl|rfl
 ·rw[L8 hr h0,TS (by rw[hr];decide)]
  rfl
 ·rw[TS (by rw[hr];decide),L8 hr h0]
  rfl
theorem BA {fs:List Zn} (hf:∀ f∈fs,QY f) {T:Nat} (hT:T≤200):∀ (pl:List Zl) (k:Nat) (out:List Zf),(∀ p∈pl,∃ s f,MM fs (T:Int) p s f) →
  ∃ ys,Qb [J7,JG] pl k out=out++ys∧J4 (fun p y=>∃ s f,MM fs (T:Int) p s f∧y=(ZG s p).1) pl ys
 | [],k,out,_=>⟨[],by unfold Qb;simp,.nil⟩
 | p::pl,k,out,h=>by
  obtain⟨s,f,hs,hff,hp⟩:=h p (List.mem_cons_self ..)
  have ho:=W9 hs
  have hk:=UM (Vs ho (hf f hff) (t:=(T:Int)) (by omega))
  have hx:=(DR ho (hf f hff) hT).1
  rw[← hp] at hk hx
  obtain⟨ys,e,q⟩:=BA hf hT pl (k+1) (out ++ [(ZG s p).1]) fun p hp=>h p (List.mem_cons_of_mem _ hp)
  refine⟨_::ys,?_,.cons ⟨s,f,⟨hs,hff,hp⟩,rfl⟩ q⟩
  unfold Qb Y3
  simp only
  rw[Ro hs hk.2 hx,e,List.append_assoc]
  rfl
theorem BB:∀ (xs:List Zl) (k:Nat),(∀ p∈xs,ZL p=0)→X5 xs k=.inl ()
 | [],k,_=>rfl
 | x::xs,k,h=>by
  rw[X5]
  try simp only
  rw[h x List.mem_cons_self]
  simp only[bne_self_eq_false,cond_false]
  exact BB xs (k+1) fun p hp=>h p (List.mem_cons_of_mem _ hp)
theorem HE {T:Type} (q:T→T→Bool):∀ (l:List T) (p:T),(G0 q p l).Sublist l
 | [],_=>.slnil
 | b::l,p=>by
  rw[G0]
  split
  ·exact(HE q l b).cons b
  ·exact(HE q l b).cons_cons b
theorem Ny {T:Type} {q:T→T→Bool} (hq:∀ a b,q a b=true→a=b) {x:T}:∀ (l:List T) (p:T),x∈l→x=p∨x∈G0 q p l
 | b::l,p,h=>by
  have hb:x=b→x=p∨x∈G0 q p (b::l):=by
   rintro rfl
   rw[G0]
   split
   ·rename_i g;exact .inl (hq _ _ g)
   ·exact .inr (List.mem_cons_self ..)
  rcases List.mem_cons.1 h with h|h
  ·exact hb h
  ·rcases Ny hq l b h with h|h
   ·exact hb h
   ·right
    rw[G0]
    split
    ·exact h
    ·exact List.mem_cons_of_mem _ h
theorem P8 {T:Type} (q:T→T→Bool) (l:List T):(cpt q l).Sublist l:=by
 cases l with
 | nil=>exact .slnil
 | cons a l=>exact(HE q l a).cons_cons a
theorem P9 {T:Type} {q:T→T→Bool} (hq:∀ a b,q a b=true→a=b) {x:T} {l:List T} (h:x∈l):x∈cpt q l:=by
 cases l with
 | nil=>exact h
 | cons a l =>
  rcases List.mem_cons.1 h with rfl|h
  ·exact List.mem_cons_self ..
  ·rcases Ny hq l a h with h|h
   ·rw[h];exact List.mem_cons_self ..
   ·exact List.mem_cons_of_mem _ h
theorem TT (a b:Zl) (h:Zl.eqb a b=true):a=b:=by
 rw[Zl.eqb_eq] at h
 exact of_decide_eq_true h
def XD (s:Zh) (fs:List Zn) (T:Int):List Zl:=fs.map fun f=>(Z3 s (QD f T)).1
theorem Nz {fs:List Zn} (hf:∀ f∈fs,QY f) {T:Nat} (hT:T≤200) {s:Zh} (hs:Site s) {p:Zl} (hp:p∈XD s fs (T:Int)):ZL p=0∧p.Time=(T:Int):=by
 obtain⟨f,h,rfl⟩:=List.mem_map.1 hp
 have h0:=Vs hs (hf f h) (t:=(T:Int)) (by omega)
 exact⟨(UM h0).1,by rw[(Kq h0).2.2.2.2];rfl⟩
theorem HF {x:List Zl} {T:Int} (hx:∀ p∈x,ZL p=0∧p.Time=T):∀ (xs:List Zl) (k:Nat),k+xs.length=x.length→(∀ p∈xs,p∈x)→Qc x xs k=.inl ()
 | [],_,_,_=>rfl
 | p::xs,k,hl,h=>by
  rw[List.length_cons] at hl
  have hp:=hx p (h p (List.mem_cons_self ..))
  have ih:=HF hx xs (k+1) (by omega) fun p hp=>h p (List.mem_cons_of_mem _ hp)
  unfold Qc
  simp only
  rw[hp.1,show ((0:Int) != 0)=false from rfl,cond_false]
  have e:k-1<x.length:=by omega
  have ht:(x[k-1]?.getD Zl.zero).Time=T:=by
   rw[List.getElem?_eq_getElem e]
   exact(hx _ (List.getElem_mem e)).2
  rw[ht,hp.2,decide_eq_false (Int.lt_irrefl T),cond_false,ih]
  cases decide ((k:Int)>0) <;> rfl
theorem TU {a b:List Zl} {T:Int} (ha:∀ p∈a,ZL p=0∧p.Time=T) (hb:∀ p∈b,ZL p=0∧p.Time=T) (la:a.length≤256) (lb:b.length≤256):Y1 [a,b]=(cpt Zl.eqb (U6 (a++b)),0):=by
 unfold Y1 Qd Qd Qd
 rw[HF ha a 0 (by omega) fun _ h=>h,HF hb b 0 (by omega) fun _ h=>h,decide_eq_false (show ¬ (a.length:Int)>256 by omega),decide_eq_false (show ¬ (b.length:Int)>256 by omega)]
 rfl
theorem DT {s:Zh} (hs:Site s) {T:Nat} (hT:T≤200):∀ (xs:List Zn) (k:Nat) (feed:List Zl),(∀ f∈xs,QY f)→Xz (T:Int) s xs k feed=.inl (feed++XD s xs (T:Int))
 | [],_,feed,_=>by unfold Xz XD;simp
 | f::xs,k,feed,h=>by
  have h0:=Vs hs (h f (List.mem_cons_self ..)) (t:=(T:Int)) (by omega)
  unfold Xz
  simp only
  rw[show (⟨(T:Int),ZP f (T:Int),f.height,f.code,0⟩:Zf)=QD f (T:Int) from rfl,h0,show ((0:Int) != 0)=false from rfl,cond_false,DT hs hT xs (k+1) _ fun f hf=>h f (List.mem_cons_of_mem _ hf)]
  unfold XD
  simp
theorem PC {fs:List Zn} (hf:∀ f∈fs,QY f) (hn:fs.length≤3) {T:Nat} (hT:T≤200) :
  ∃ l,ZC ZF fs (T:Int)=(l,true)∧l.length≤6∧(∀ s∈l,∃ f∈fs,V4 s (T:Int) f.height f.code (Jj f T))∧∀ f∈fs,∃ s∈l,s.Code=f.code:=by
 have q1:=fun p (hp:p∈XD J7 fs (T:Int))=>Nz hf hT G2 hp
 have q2:=fun p (hp:p∈XD JG fs (T:Int))=>Nz hf hT HD hp
 have l1:(XD J7 fs (T:Int)).length=fs.length:=List.length_map ..
 have l2:(XD JG fs (T:Int)).length=fs.length:=List.length_map ..
 have hm:=TU q1 q2 (by omega) (by omega)
 obtain⟨pl,hpl⟩:∃ pl,pl=cpt Zl.eqb (U6 (XD J7 fs (T:Int)++XD JG fs (T:Int))):=⟨_,rfl⟩
 rw[← hpl] at hm
 have hperm:(U6 (XD J7 fs (T:Int)++XD JG fs (T:Int))).Perm (XD J7 fs (T:Int)++XD JG fs (T:Int)):=List.mergeSort_perm ..
 have hsub:pl.Sublist (U6 (XD J7 fs (T:Int)++XD JG fs (T:Int))):=by rw[hpl];exact P8 ..
 have hin:∀ p∈pl,p∈XD J7 fs (T:Int)∨p∈XD JG fs (T:Int):=fun p hp=>List.mem_append.1 (hperm.mem_iff.1 (hsub.mem hp))
 have hall:∀ p,p∈XD J7 fs (T:Int)→p∈pl:=fun p hp=>by
  rw[hpl];exact P9 TT (hperm.mem_iff.2 (List.mem_append.2 (.inl hp)))
 have hlen:pl.length≤6:=by
  have:=hsub.length_le
  rw[hperm.length_eq,List.length_append] at this
  omega
 have his:∀ p∈pl,∃ s f,MM fs (T:Int) p s f:=fun p hp=>by
  rcases hin p hp with h|h
  ·obtain⟨f,h',rfl⟩:=List.mem_map.1 h;exact⟨J7,f,.inl rfl,h',rfl⟩
  ·obtain⟨f,h',rfl⟩:=List.mem_map.1 h;exact⟨JG,f,.inr rfl,h',rfl⟩
 obtain⟨ys,e,q⟩:=BA hf hT pl 0 [] his
 have hsp:Xg [J7,JG] pl=(ys,0):=by
  unfold Xg
  have c:YM pl=0:=by
   unfold YM
   rw[decide_eq_false (by omega),cond_false,BB pl 0 fun p hp=>by
    rcases hin p hp with h|h
    ·exact(q1 p h).1
    ·exact(q2 p h).1]
   rfl
  rw[show XP [J7,JG]=0 by kernel_rfl,c]
  simp only[bne_self_eq_false,cond_false]
  unfold Y3
  rw[e]
  rfl
 refine⟨ys,?_,by rw[q.len];exact hlen,fun s hs=>?_,fun f hff=>?_⟩
 ·rw[show ZF=[J7,JG] from rfl]
  unfold ZC X0 X0 X0
  rw[DT G2 hT fs 0 [] hf,DT HD hT fs 0 [] hf]
  simp only[Sum.elim_inl,List.nil_append]
  rw[show ([XD J7 fs (T:Int)] ++ [XD JG fs (T:Int)])=[XD J7 fs (T:Int),XD JG fs (T:Int)] from rfl,hm]
  simp only
  rw[hsp]
  rfl
 ·obtain⟨p,hp,s',f,⟨h1,h2,rfl⟩,rfl⟩:=q.right hs
  exact⟨f,h2,(DR (W9 h1) (hf f h2) hT).2⟩
 ·obtain⟨y,hy,s',f',⟨h1,h2,h3⟩,h4⟩:=q.left (hall _ (List.mem_map.2 ⟨f,hff,rfl⟩))
  refine⟨y,hy,?_⟩
  have g:=(DR (W9 h1) (hf f' h2) hT).2
  rw[← h3] at g
  rw[h4,g.code]
  have c1:=Kq (Vs G2 (hf f hff) (t:=(T:Int)) (by omega))
  have c2:=Kq (Vs (W9 h1) (hf f' h2) (t:=(T:Int)) (by omega))
  have:=congrArg Zl.Code h3
  rw[c1.2.2.2.2,c2.2.2.2.2] at this
  exact this.symm
end Go.Sky
end
section
namespace Go.Sky
open Go Go.Eng Go.Proofs
def YH (f:Za) (p:P):Bool×Int :=
 let r1:=Z1 f
 cond (r1 != 0) (
  (false,r1)) (
  let r2:=Yf p
  cond (r2 != 0) (
   (false,r2)) (
   let r3:=ZQ f.Track.At p f.Track.Radius
   (r3,0)))
set_option maxRecDepth 100000 in
theorem G3 (f:Za) (p:P) (w:World):Calls Tryz.prog 15 #[Za.v f,P.v p] w (Ret w (.tuple #[.bool ((YH f p).1),.int .i64 ((YH f p).2)])):=by
 refine Zk (vs:=[Za.v f,P.v p]) (w:=w) Tryz.func15 rfl Tryz.ntmps15 rfl (TC.sr (TL.nw 2 (fun b1=>.p0 b1) (fun b1=>Bk b1 (Za.c f) 44) (fun b1=>{}) (fun b1=>TL.nw 3 (fun b2=>.p0 b2) (fun b2=>Bk b2 (P.c p) 36) (fun b2=>{}) (fun b2=>TL.r 4 [] [(4,.b false),(5,.i 0)] {} (TL.ns (TC.sr (TL.r 1 [1] [(8,Za.v f)] {} (TL.c 9 (Z1 f) (fun r1=>.i r1) (fun w _=>XA f w) {} (fun r1 hr1=>TL.r 3 [] [(6,.i r1)] {} (TL.nr (TL.r 2 [] [(11,.b (r1 != 0))] {} (TL.next rfl (TC.cond (r1 != 0) rfl Kr (fun h1=>?_) (fun h1=>?_))))))))))))))
 ·exact TC.sr (TL.r 3 [] [(4,.b false),(5,.i r1)] {} (TL.next rfl (TC.ret (TE.rt (TE.ret [] (.tuple #[.b false,.i r1]) {} (by unfold YH;refine eS (a:=(false,r1)) (fun (z:Bool×Int)=>(.tuple #[.b z.1,.i z.2]:Value)) ?_;subst hr1;exact Zi h1 (rfl)))))))
 ·refine TC.sn (TC.seq (TC.sr (TL.r 1 [0] [(13,P.v p)] {} (TL.c 14 (Yf p) (fun r2=>.i r2) (fun w _=>JV p w) {} (fun r2 hr2=>TL.r 3 [] [(7,.i r2)] {} (TL.nr (TL.r 2 [] [(16,.b (r2 != 0))] {} (TL.next rfl (TC.cond (r2 != 0) rfl Kr (fun h2=>?_) (fun h2=>?_))))))))))
  ·exact TC.sr (TL.r 3 [] [(4,.b false),(5,.i r2)] {} (TL.next rfl (TC.ret (TE.rt (TE.ret [] (.tuple #[.b false,.i r2]) {} (by unfold YH;refine eS (a:=(false,r2)) (fun (z:Bool×Int)=>(.tuple #[.b z.1,.i z.2]:Value)) ?_;subst hr1 hr2;exact Zb h1 (Zi h2 (rfl))))))))
  ·exact TC.snr (TL.r 7 [1,0,1] [(20,P.v f.Track.At),(21,P.v p),(24,.i f.Track.Radius)] {} (TL.c 25 (ZQ f.Track.At p f.Track.Radius) (fun r3=>.b r3) (fun w _=>QH f.Track.At p f.Track.Radius w) {} (fun r3 hr3=>TL.r 10 [] [(4,.b r3),(5,.i 0)] {} (TL.next rfl (TC.ret (TE.ret [] (.tuple #[.b r3,.i 0]) {} (by unfold YH;refine eS (a:=(r3,0)) (fun (z:Bool×Int)=>(.tuple #[.b z.1,.i z.2]:Value)) ?_;subst hr1 hr2 hr3;exact Zb h1 (Zb h2 (rfl)))))))))
def XK (_x:Int):Bool :=
 false
instance:Inhabited Ze:=⟨Ze.zero⟩
set_option maxRecDepth 100000 in
theorem UO (_x:Int) (w:World):Calls Tryz.prog 11 #[.int .i64 _x] w (Ret w (.bool (XK _x))):=by
 exact Zk (vs:=[.i _x]) (w:=w) Tryz.func11 rfl Tryz.ntmps11 rfl (TC.sr (TL.r 1 [] [(2,.b false)] {} (TL.nr (TL.r 1 [] [(2,.b false)] {} (TL.next rfl (TC.ret (TE.ret [] (.b false) {} (by unfold XK;refine eS (fun z=>(.b z:Value)) ?_;exact rfl))))))))
def K7 (l:List Zn):Nat→Nat→Int→Ze→(Int×Ze)
 | 0,_,last,t=>(last,t)
 | m+1,k,_,t=>let r3:=ZF
  let r4:=ZC r3 l (w64 (4*(k:Int)))
  cond (!r4.2) (
   default) (
   let r5:=XK (k:Int)
   cond r5 (
    default) (
    let r6:=Zp t r4.1 (w64 (4*(k:Int)))
    cond (r6.2.1 != 0) (
     default) (
     K7 l m (k+1) (w64 (4*(k:Int))) r6.2.2)))
def Vt (l:List Zn) (scans:Int):Ze×Int×Bool :=
 let r1:=ZJ
 let r2:=Yg r1
 cond ((r2.2 != 0)||false) (
  (Ze.zero,0,false)) (
  Y3 (K7 l ((scans:Int).toNat) 0 0 r2.1) (fun (last_2,t_2) =>
   (t_2,last_2,true)))
theorem Rq {t:Ze} {l:List Zf} {time:Int} {r:List Track×Int×Ze} (hr:Zp t l time=r) (hl:l.length≤32) (hs:Sp time l) (h0:0≤time∧time≤200000) (h1:t.last<time) (hn:t.all.length≤32):r.2.1=0∧r.2.2.all.length≤32∧r.2.2.last=time:=by
 have hc:=VV.2 ⟨hl,h0,h1,hs⟩
 have e:r.2.1=0:=by
  rw[← hr]
  unfold Zp
  simp only[hc]
  rfl
 rcases Hi hr with h|h
 ·exact absurd e h.1
 ·exact⟨e,h.2.2.2.2.2.1 hn,h.2.2.2.2.1⟩
set_option maxRecDepth 100000 in
theorem O3 (A_l:Option Addr) (c_l:Nat) (l:List Zn) (scans:Int) (w:World) (hM:Sat (cx w) [] w) (h_l:Rd w 6 A_l (l.map Zn.c)) (hc_l:l.length≤c_l) (hT:Ua w) (hn:l.length≤4∧0≤scans∧scans≤12) (hs:∀ T:Int,0≤T→T≤48→(ZC ZF l T).2=true∧(ZC ZF l T).1.length≤32∧Sp T (ZC ZF l T).1):Calls Tryz.prog 10 #[.slice A_l l.length c_l,.int .i64 scans,.func (.func 11) #[] #[]] w (QK (Γ:=Nat×(Option Addr×Nat)) (cx w) (fun g=>.tuple #[.pointer (some ⟨g.1,0,none⟩),.int .i64 ((Vt l scans).2.1),.bool ((Vt l scans).2.2)]) (fun g=>[.inl (g.1,.cells (Ze.k (⟨⟨((Vt l scans).1).rules.Need,((Vt l scans).1).rules.Of,((Vt l scans).1).rules.Misses,((Vt l scans).1).rules.Accel,((Vt l scans).1).rules.Place,((Vt l scans).1).rules.Speed⟩,((Vt l scans).1).all,((Vt l scans).1).next,((Vt l scans).1).last⟩:Ze) g.2.1 g.2.2) 118 (0,0)),.inr (Own g.2.1 g.2.2 122 23 ((((Vt l scans).1).all).map followed.c))])):=by
 have s_l:=h_l.short;rw[List.length_map] at s_l
 refine Yu (w0:=(cx w)) (vs:=[.slice A_l l.length c_l,.i scans,.func (.func 11) #[] #[]]) hM Tryz.func10 rfl Tryz.ntmps10 rfl (TC.sr (TL.r 3 [] [(6,.pointer none),(7,.i 0),(8,.b false)] {} (TL.nr (TL.c 18 (ZJ) (fun r1=>Zw.v r1) (fun w _=>KG w) {} (fun r1 hr1=>TL.cm (Γ:=Nat×AN) 0 19 (Yg r1) (fun r2 g=>.tuple #[.p0 g.1,.i r2.2]) (fun r2 g=>[Bk g.1 (Ze.k r2.1 g.2.1 g.2.2) 118,Ow g.2.1 g.2.2 122 23 (r2.1.all.map followed.c)]) [] Kr (fun w hM=>U3 r1 w hM (by subst hr1;rfl)) {} (fun r2 hr2=>?_))))))
 have kn_:r2.1.all.length≤32∧r2.1.last<0:=by rw[← hr2,← hr1];decide
 rintro⟨b_r2,A,c⟩
 refine TL.know (fun w hM=>hM.short_at 1 rfl) (fun s_r2_1=>TL.r 7 [] [(9,.p0 b_r2),(10,.i r2.2)] {} (TL.ns (TC.sr (TL.r 3 [] [(24,.b (r2.2 != 0))] {} (TL.j 24 (r2.2 != 0) 6 [] [] (fun β=>[(27,.b (β||false))]) Kr {} {} (TL.next rfl (TC.cond ((r2.2 != 0)||false) rfl Kr (fun h1=>?_) (fun h1=>?_))))))))
 ·exact((by have e_:r2.2=0:=(by rw[← hr2,← hr1];rfl);rw[e_] at h1;cases h1):False).elim
 ·have q1_0:=(QG (Zt h1))
  refine TC.snr (TL.r 1 [] [(11,.i 0)] {} (TL.ns (TC.sr (TL.r 2 [] [(28,.i scans),(29,.i 0)] {} (TL.next rfl ?_)))))
  obtain⟨R1,hR⟩:∃ R,R=K7 l ((scans:Int).toNat) 0 0 r2.1:=⟨_,rfl⟩
  refine TC.cut (S:=Int×Ze×(Option Addr)×Nat) (fun (last_2,t_2,A_t_2,c_t_2)=>[(9,.p0 b_r2),(11,.i last_2)]) (fun (last_2,t_2,A_t_2,c_t_2)=>[Bk b_r2 (Ze.k t_2 A_t_2 c_t_2) 118,Ow A_t_2 c_t_2 122 23 (t_2.all.map followed.c)]) (fun (last_2,t_2,A_t_2,c_t_2)=>R1=(last_2,t_2)∧(t_2.all.length≤32)) ?_ ?_
  ·refine TC.block (TC.lw (X:=Nat×Int×Ze×(Option Addr)×Nat) (fun (k,last,t,A_t,c_t)=>[(0,.slice A_l l.length c_l),(2,.func (.func 11) #[] #[]),(9,.p0 b_r2),(11,.i last),(28,.i scans),(29,.i (k:Int))]) (fun (k,last,t,A_t,c_t)=>[Bk b_r2 (Ze.k t A_t c_t) 118,Ow A_t c_t 122 23 (t.all.map followed.c)]) (fun (k,last,t,A_t,c_t)=>(scans:Int).toNat-k) (fun (k,last,t,A_t,c_t)=>k≤(scans:Int).toNat∧R1=K7 l ((scans:Int).toNat-k) k last t∧(t.all.length≤32∧t.last<4*(k:Int))) ?_ (0,0,r2.1,A,c) ⟨Nat.zero_le _,hR,sz⟩ Kr (sb 3))
   rintro⟨k,last,t,A_t,c_t⟩ ⟨hk,hI,hl_iv0⟩
   refine TC.sr (TL.r 1 [] [(30,.b (decide ((k:Int)<scans)))] {} (TL.ns (TC.cond (decide ((k:Int)<scans)) rfl Kr (fun h2=>?_) (fun h2=>?_))))
   ·have hlt:k<(scans:Int).toNat:=by have:=of_decide_eq_true h2;first|omega|(simp at this;omega)
    have hd:(scans:Int).toNat-k=((scans:Int).toNat-(k+1))+1:=by omega
    refine TC.sn (TC.seq (TC.block (TC.sr (TL.r 2 [] [(12,.i (k:Int))] {} (TL.nr (TL.r 3 [] [(11,.i (w64 (4*(k:Int))))] {} (TL.nr (TL.cn (Γ:=AN) 35 (ZF) (fun r3 g=>.slice g.1 r3.length g.2) (fun r3 g=>[Ow g.1 g.2 85 6 (r3.map Zh.c)]) (fun w _=>Uu w) {} (fun r3 hr3=>?_)))))))))
    have kr_:r3.length=2:=by rw[← hr3];rfl
    rintro⟨A_2,c_2⟩
    refine TL.know (fun w hM=>hM.short_at 0 rfl) (fun s_r3_0=>TL.r 3 [] [(36,.slice A_l l.length c_l),(37,.i (w64 (4*(k:Int))))] {} (TL.cn (Γ:=AN) 38 (ZC r3 l (w64 (4*(k:Int)))) (fun r4 g=>.tuple #[.slice g.1 r4.1.length g.2,.b r4.2]) (fun r4 g=>[Ow g.1 g.2 42 6 (r4.1.map Zf.c)]) (fun w hM=>G1 A_2 c_2 r3 A_l c_l l (w64 (4*(k:Int))) w (hM.rd_at 0 rfl) (hM.le_at 0 rfl) (h_l.sat hM) hc_l (hT.sat hM) sg) {} (fun r4 hr4=>?_)))
    have kw_:=hs (w64 (4*(k:Int))) (by rw[Zm (by omega)];omega) (by rw[Zm (by omega)];omega);rw[hr3,hr4] at kw_
    rintro⟨A_3,c_3⟩
    refine TL.know (fun w hM=>hM.short_at 0 rfl) (fun s_r4_0=>TL.r 9 [] [(13,.slice A_3 r4.1.length c_3),(14,.b r4.2)] {} (TL.ns (TC.sr (TL.r 2 [] [(42,.b (!r4.2))] {} (TL.next rfl (TC.cond (!r4.2) rfl Kr (fun h3=>?_) (fun h3=>?_)))))))
    ·exact((by rw[kw_.1] at h3;cases h3):False).elim
    ·refine TC.sn (TC.seq (TC.sr (TL.r 2 [] [(43,.func (.func 11) #[] #[]),(44,.i (k:Int))] {} (TL.c 45 (XK (k:Int)) (fun r5=>.b r5) (fun w _=>UO (k:Int) w) {} (fun r5 hr5=>TL.next rfl (TC.cond r5 rfl Kr (fun h4=>?_) (fun h4=>?_)))))))
     ·exact((by rw[← hr5] at h4;cases h4):False).elim
     ·refine TC.snr (TL.r 3 [] [(47,.p0 b_r2),(48,.slice A_3 r4.1.length c_3),(49,.i (w64 (4*(k:Int))))] {} (TL.conv [Bk b_r2 (Ze.k t A_t c_t) 118,Ow A_t c_t 122 23 (t.all.map followed.c),Ow A_3 c_3 42 6 (r4.1.map Zf.c),Ow A_2 c_2 85 6 (r3.map Zh.c)] (fun _ hM=>hM.perm (px [2,3,0,1])) (TL.cm (Γ:=AN×AN) 3 50 (Zp t r4.1 (w64 (4*(k:Int)))) (fun r6 g=>.tuple #[.slice g.1.1 r6.1.length g.1.2,.i r6.2.1]) (fun r6 g=>[Bk b_r2 (Ze.k r6.2.2 g.2.1 g.2.2) 118,Ow g.2.1 g.2.2 122 23 (r6.2.2.all.map followed.c),Ow A_3 c_3 42 6 (r4.1.map Zf.c),Ow g.1.1 g.1.2 40 13 (r6.1.map Track.c)]) [Bk b_r2 (Ze.k t A_t c_t) 118,Ow A_t c_t 122 23 (t.all.map followed.c),Ow A_3 c_3 42 6 (r4.1.map Zf.c)] Kr (fun w hM=>QS b_r2 t A_t c_t A_3 c_3 r4.1 (w64 (4*(k:Int))) w hM sg) {} (fun r6 hr6=>?_))))
      have kt_:=Rq hr6 kw_.2.1 kw_.2.2 (by rw[Zm (by omega)];omega) (by rw[Zm (by omega)];omega) (by omega);rw[Zm (x:=4*(k:Int)) (by omega)] at kt_
      rintro⟨⟨A_4,c_4⟩,A_5,c_5⟩
      refine TL.know (fun w hM=>hM.short_at 1 rfl) (fun s_r6_1=>TL.know (fun w hM=>hM.short_at 3 rfl) (fun s_r6_3=>TL.r 9 [] [(16,.i r6.2.1)] {} (TL.nr (TL.r 2 [] [(54,.b (r6.2.1 != 0))] {} (TL.next rfl (TC.cond (r6.2.1 != 0) rfl Kr (fun h5=>?_) (fun h5=>?_)))))))
      ·exact((by rw[kt_.1] at h5;cases h5):False).elim
      ·have q5_0:=(QG h5)
       exact TC.skip (TE.nb (TE.next (TC.region (TL.r 2 [] [(29,.i (w64 ((k:Int)+1)))] {} (TL.done rfl (TE.rw 29 (.i (w64 ((k:Int)+1))) (.i ((k+1:Nat):Int)) Kr (ZD k (by omega)) (TE.again (x:=(k,last,t,A_t,c_t)) (k+1,w64 (4*(k:Int)),r6.2.2,A_5,c_5) ⟨by omega,hI.trans (by subst hr1 hr2 hr3 hr4 hr5 hr6;rw[hd];exact Zb h3 (Zb h4 (Zb h5 (rfl)))),sl⟩ (mN hlt) Kr (sb 3))))))))
   ·have hd:(scans:Int).toNat-k=0:=by have:=of_decide_eq_false h2;first|omega|(simp at this;omega)
    refine TC.exit (TE.et (TE.et (TE.exit_same ?_)))
    exact TE.cut (last,t,A_t,c_t) (⟨hI.trans (by subst hr1 hr2;rw[hd];exact rfl),sl⟩) Kr (sb 3)
  ·rintro⟨last_2,t_2,A_t_2,c_t_2⟩ ⟨hJ,hl_ov0_0⟩
   refine TE.nr (TL.r 5 [] [(6,.p0 b_r2),(7,.i last_2),(8,.b true)] {} (TL.next rfl (TC.ret ?_)))
   have e:Vt l scans=(t_2,last_2,true):=by subst hr1 hr2;unfold Vt;exact Zb h1 (Ye (hR.symm.trans hJ) (rfl))
   rw[e]
   exact TE.retM (.inl rfl) (b_r2,(A_t_2,c_t_2)) [] (.tuple #[.p0 b_r2,.i last_2,.b true]) {} rfl (fun _ hM=>hM.sub (sb 3))
end Go.Sky
end
section
namespace Go.Sky
open Go Go.Eng Go.Glue Go.Srt
def Rr (x:followed):Prop:=x.f.Track.State=1∧x.f.Track.Misses=0
theorem PD (x:followed) (h:Rr x):CO x:=.inr (.inl h.1)
structure Fls (fs:List Zn):Prop where
 fly:∀ f∈fs,QY f
 code:(fs.map fun f=>f.code).Nodup
 len:fs.length≤3
theorem Fls.perm {fs gs:List Zn} (h:Fls fs) (hp:gs.Perm fs):Fls gs:=⟨fun f hf=>h.fly f (hp.mem_iff.1 hf),(hp.map _).nodup_iff.2 h.code,by rw[hp.length_eq];exact h.len⟩
theorem DU {fs gs:List Zn} (h:Fls fs) (hp:gs.Perm fs) {T:Nat} (hT:T≤200) :
  ∃ l,ZC ZF fs (T:Int)=(l,true)∧l.length≤6∧(∀ s∈l,OfF gs T s)∧∀ f∈gs,∃ s∈l,s.Code=f.code:=by
 obtain⟨l,l1,l2,l3,l4⟩:=PC h.fly h.len hT
 exact⟨l,l1,l2,fun s hs=>by obtain⟨f,f1,f2⟩:=l3 s hs;exact⟨f,hp.mem_iff.2 f1,f2⟩,fun f hf=>l4 f (hp.mem_iff.1 hf)⟩
theorem Rt {fs:List Zn} (h:Fls fs) (T:Int) (h0:0≤T) (h1:T≤48):(ZC ZF fs T).2=true∧(ZC ZF fs T).1.length≤32∧Sp T (ZC ZF fs T).1:=by
 obtain⟨n,rfl⟩:∃ n:Nat,T=(n:Int):=⟨T.toNat,by omega⟩
 obtain⟨l,l1,l2,l3,_⟩:=DU h (.refl _) (T:=n) (by omega)
 rw[l1]
 exact⟨rfl,by show l.length≤32;omega,fun s hs=>by have:=V5 h.fly (by omega) (l3 s hs);exact⟨this.1,this.2.1⟩⟩
theorem N1 {fs gs:List Zn} (h:Fls fs) (hp:gs.Perm fs) {t:Ze} {t0 k:Nat} (ht:Trk gs t t0 CO) (hl:-1≤t.last∧t.last<((4*k:Nat):Int)) (hd:t0+4≤4*k∧4*k≤t0+20) (hT:4*k≤60) :
  ∃ r:Ze,(ZC ZF fs ((4*k:Nat):Int)).2=true∧Zp t (ZC ZF fs ((4*k:Nat):Int)).1 ((4*k:Nat):Int)=(r.all.map (fun x=>x.f.Track),0,r)∧Trk gs r (4*k) Rr∧r.last=((4*k:Nat):Int)∧ids r.all=ids t.all:=by
 obtain⟨l,l1,l2,l3,l4⟩:=DU h hp (T:=4*k) (by omega)
 have g:=h.perm hp
 obtain⟨r,r1,r2,r3,r4⟩:=CP g.fly g.code (by have:=g.len;omega) ht hl hd hT (by omega) l3 l4
 rw[l1]
 exact⟨r,rfl,r1,r2,r3,r4⟩
theorem four (k:Nat) (hk:k≤100):w64 (4*(k:Int))=((4*k:Nat):Int):=by rw[Zm (by omega)];omega
theorem N2 {fs gs:List Zn} (h:Fls fs) (hp:gs.Perm fs):∀ (m k:Nat) (t:Ze),1≤k→k+m≤15→Trk gs t (4*(k-1)) Rr→t.last=((4*(k-1):Nat):Int) →
  ∃ r:Ze,K7 fs m k ((4*(k-1):Nat):Int) t=(((4*(k+m-1):Nat):Int),r)∧Trk gs r (4*(k+m-1)) Rr∧r.last=((4*(k+m-1):Nat):Int)∧ids r.all=ids t.all
 | 0,k,t,_,_,ht,hl=>⟨t,rfl,ht,hl,rfl⟩
 | m+1,k,t,h1,hk,ht,hl=>by
  obtain⟨r,q0,q1,q2,q3,q4⟩:=N1 h hp (k:=k) (ht.weak PD) (by omega) (by omega) (by omega)
  obtain⟨r',e,p1,p2,p3⟩:=N2 h hp m (k+1) r (by omega) (by omega) (by rw[Nat.add_sub_cancel];exact q2) (by rw[Nat.add_sub_cancel];exact q3)
  rw[Nat.add_sub_cancel] at e
  refine⟨r',?_,by rw[show k+(m+1)-1=k+1+m-1 by omega];exact p1,by rw[show k+(m+1)-1=k+1+m-1 by omega];exact p2,p3.trans q4⟩
  unfold K7
  simp only
  rw[four k (by omega),q0,q1]
  simp only[Bool.not_true,cond_false]
  rw[show XK (k:Int)=false from rfl,show ((0:Int) != 0)=false from rfl]
  simp only[cond_false]
  rw[e,show k+(m+1)-1=k+1+m-1 by omega]
theorem O4:Yg ZJ=(⟨ZJ,[],0,-1⟩,0):=by rfl
theorem PE {fs:List Zn} (h:Fls fs):∃ (r0 r:Ze) (gs:List Zn),gs.Perm fs∧(ZC ZF fs 0).2=true∧Zp ⟨ZJ,[],0,-1⟩ (ZC ZF fs 0).1 0=(r0.all.map (fun x=>x.f.Track),0,r0) ∧
  (ZC ZF fs 4).2=true∧Zp r0 (ZC ZF fs 4).1 4=(r.all.map (fun x=>x.f.Track),0,r)∧Trk gs r 4 Rr∧r.last=4:=by
 obtain⟨l,l1,l2,l3,l4⟩:=DU h (.refl _) (T:=0) (by omega)
 obtain⟨r0,gs,a1,a2,a3,a4⟩:=NS h.fly h.code (t:=⟨ZJ,[],0,-1⟩) rfl (by omega) l3 l4
 obtain⟨r,q0,q1,q2,q3,q4⟩:=N1 h a2 (k:=1) (a3.weak fun x hx=>.inl hx) (by rw[a4];decide) (by decide) (by decide)
 refine⟨r0,r,gs,a2,?_,?_,q0,q1,q2,q3⟩
 ·show (ZC ZF fs ((0:Nat):Int)).2=true
  rw[l1]
 ·show Zp _ (ZC ZF fs ((0:Nat):Int)).1 0=_
  rw[l1];exact a1
theorem TV {fs:List Zn} (h:Fls fs) {n:Nat} (hn:2≤n∧n≤15):∃ (r:Ze) (gs:List Zn),Vt fs (n:Int)=(r,((4*(n-1):Nat):Int),true)∧gs.Perm fs∧Trk gs r (4*(n-1)) Rr∧r.last=((4*(n-1):Nat):Int):=by
 obtain⟨r0,r1,gs,a1,a2,a3,a4,a5,a6,a7⟩:=PE h
 obtain⟨m,rfl⟩:∃ m,n=m+2:=⟨n-2,by omega⟩
 obtain⟨r,e,b1,b2,b3⟩:=N2 h a1 m 2 r1 (by decide) (by omega) a6 a7
 refine⟨r,gs,?_,a1,by rw[show m+2-1=2+m-1 by omega];exact b1,by rw[show m+2-1=2+m-1 by omega];exact b2⟩
 unfold Vt
 dsimp only
 rw[O4,Int.toNat_natCast]
 dsimp only
 rw[show (((0:Int) != 0)||false)=false from rfl,cond_false]
 unfold K7
 simp only
 rw[show w64 (4*((0:Nat):Int))=0 from rfl,a2,a3]
 simp only[Bool.not_true,cond_false]
 rw[show XK ((0:Nat):Int)=false from rfl,show ((0:Int) != 0)=false from rfl]
 simp only[cond_false]
 unfold K7
 simp only
 rw[show w64 (4*(((0:Nat)+1:Nat):Int))=4 from rfl,a4,a5]
 simp only[Bool.not_true,cond_false]
 rw[show XK (((0:Nat)+1:Nat):Int)=false from rfl,show ((0:Int) != 0)=false from rfl]
 simp only[cond_false]
 have e2:K7 fs m (0+1+1) 4 r1=(((4*(2+m-1):Nat):Int),r):=e
 rw[e2,show m+2-1=2+m-1 by omega]
 rfl
theorem L9 (l:List Int):∀ (m k:Nat) (out:List Zn),k+m≤3→(∀ f∈out,f.code<100+4*(k:Int))→(out.map fun f=>f.code).Nodup→((Yj l m k out).map fun f=>f.code).Nodup
 | 0,_,out,_,_,h=>h
 | m+1,k,out,hk,h1,h2=>by
  unfold Yj
  dsimp only
  refine L9 l m (k+1) _ (by omega) (fun f hf=>?_) ?_
  ·rcases List.mem_append.1 hf with hf|hf
   ·have:=h1 f hf;omega
   ·rw[List.mem_singleton.1 hf]
    show w64 (100+((4*k:Nat):Int))<_
    rw[Zm (by omega)];omega
  ·rw[List.map_append,List.map_singleton]
   refine List.pairwise_append.2 ⟨h2,List.pairwise_singleton _ _,fun a ha b hb=>?_⟩
   rw[List.mem_singleton.1 hb]
   obtain⟨f,hf,rfl⟩:=List.mem_map.1 ha
   have:=h1 f hf
   show f.code≠w64 (100+((4*k:Nat):Int))
   rw[Zm (by omega)];omega
theorem TW (l:List Int):Fls (Y6 l):=by
 have h:=NN l
 exact⟨h.2,L9 l (min (l.length/4) 3) 0 [] (by omega) (fun _ h=>nomatch h) .nil,h.1⟩
theorem N3 {f:Zn} (hf:QY f) {x:Za} {t0 d:Nat} (h:Has f x t0) (ht:t0≤60) (hd:d≤60) :
  (Zq x ((t0+d:Nat):Int) 1).2=0∧(Zq x ((t0+d:Nat):Int) 1).1.In∧Knows (Zq x ((t0+d:Nat):Int) 1).1 (Jj f (t0+d)) f.speed∧(Zq x ((t0+d:Nat):Int) 1).1.Track.Code=f.code ∧
   (Zq x ((t0+d:Nat):Int) 1).1.Track.State=x.Track.State∧(Zq x ((t0+d:Nat):Int) 1).1.Track.Height=f.height∧(Zq x ((t0+d:Nat):Int) 1).1.Track.ID=x.Track.ID:=by
 by_cases h0:d=0
 ·subst h0
  rw[Nat.add_zero,← h.fol.time,BP h.fol.inn (by decide)]
  exact⟨rfl,h.fol.inn,h.knows,h.fol.code,rfl,h.fol.high.1,rfl⟩
 ·obtain⟨p1,p2,p3,p4,p5,p6⟩:=Gk (Gl hf) (by decide) (Vq hf).1 h.fol h.knows (d:=d) (by omega) (by omega) (by omega) (by omega)
  rw[p2]
  exact⟨p1,p3,p4,h.fol.code,rfl,p6,rfl⟩
theorem PP {t:Ze} {time:Int}:∀ (xs:List followed) (k:Nat) (out:List Za),(∀ x∈xs,(Zq x.f time t.rules.Accel).2=0) →
  Y9 t time xs k out=out++xs.map (fun x=>(Zq x.f time t.rules.Accel).1)
 | [],_,out,_=>by unfold Y9;simp
 | x::xs,k,out,h=>by
  unfold Y9
  simp only
  rw[h x (List.mem_cons_self ..),show ((0:Int)==0)=true from rfl,cond_true,PP xs (k+1) _ fun y hy=>h y (List.mem_cons_of_mem _ hy)]
  simp
theorem HG {f:Za} (hf:f.In) {p:P} (hp:p.In) (h:XX (f.Track.At.X-p.X) (f.Track.At.Y-p.Y) f.Track.Radius):YH f p=(true,0):=by
 have hr:=hf.1.2.2.2.2
 unfold YH
 have c1:(Z1 f != 0)=false:=by simp[XW.2 hf]
 have c2:(Yf p != 0)=false:=by simp[N9.2 hp]
 simp only[c1,c2,cond_false]
 rw[within_iff hf.1.2.1 hp (by omega)]
 refine Prod.ext ?_ rfl
 show decide _=true
 rw[decide_eq_true_eq]
 exact⟨by omega,h.2⟩
theorem E0 {gs:List Zn} (hf:∀ f∈gs,QY f) {t:Ze} {t0 d:Nat} {S:followed→Prop} (h:Trk gs t t0 S) (ht:t0≤60) (hd:d≤60) (hl:t.last≤((t0+d:Nat):Int)) :
  ∃ l,Yd t ((t0+d:Nat):Int)=(l,0)∧J4 (fun f y=>∃ x,x.f.Track.ID=y.Track.ID∧S x∧y.Track.State=x.f.Track.State∧y.Track.Code=f.code∧YH y (ZP f ((t0+d:Nat):Int))=(true,0)) gs l:=by
 have hacc:t.rules.Accel=1:=by rw[h.rules];rfl
 refine⟨t.all.map (fun x=>(Zq x.f ((t0+d:Nat):Int) 1).1),?_,h.all.mapr fun f hff x hx hh=>?_⟩
 ·unfold Yd
  rw[show ((decide (((t0+d:Nat):Int)<0))||(decide (((t0+d:Nat):Int)>200000)))=false by simp;omega,decide_eq_false (by omega)]
  simp only[cond_false]
  rw[PP t.all 0 [] (fun x hx=>by
   rw[hacc]
   obtain⟨f,hff,hh,_⟩:=h.all.right hx
   exact(N3 (hf f hff) hh ht hd).1),hacc]
  rfl
 ·obtain⟨q1,q2,q3,q4,q5,q6,q7⟩:=N3 (hf f hff) hh.1 ht hd
  refine⟨x,q7.symm,hh.2,q5,q4,?_⟩
  have w:=Hm (hf f hff) (k:=t0+d) (by omega)
  rw[Bq (hf f hff) (by omega)]
  exact HG q2 ⟨by omega,by omega,by omega,by omega⟩ q3.1
end Go.Sky
end
section
namespace Go.Sky
open Go Go.Eng Go.Proofs
def Y2 (r2:Ze×Int×Bool) (r4:Int) (x:Zn):List Za→Nat→Int→((Int) ⊕ (Bool))
 | [],_,n=>.inl n
 | x_2::xs,k_2,n=>cond ((x_2.Track.Code==x.code)&&(x_2.Track.State==1)) (
   let r6:=ZP x (w64 (r2.2.1+r4))
   let r7:=YH x_2 r6
   cond ((r7.2 != 0)||(!r7.1)) (
    .inr false) (
    Y2 r2 r4 x xs (k_2+1) (w64 (n+1)))) (
   Y2 r2 r4 x xs (k_2+1) n)
def Xh (r2:Ze×Int×Bool) (r4:Int) (r5:List Za×Int):List Zn→Nat→((Unit) ⊕ (Bool))
 | [],_=>.inl ()
 | x::xs,k=>Sum.elim (fun n_2 =>
   cond (n_2 != 1) (
    .inr false) (
    Xh r2 r4 r5 xs (k+1))) (fun r=>.inr r) (Y2 r2 r4 x r5.1 0 0)
def YX (l:List Int) (later:Int):Bool :=
 let r1:=Y6 l
 let r2:=Vt r1 6
 let r3:=X2
 cond ((!r3)||(!r2.2.2)) (
  false) (
  let r4:=ZO later 0 20
  let r5:=Yd r2.1 (w64 (r2.2.1+r4))
  cond ((r5.2 != 0)||((r5.1.length:Int) != (r1.length:Int))) (
   false) (
   Sum.elim (fun _ =>
    true) (fun r=>r) (Xh r2 r4 r5 r1 0)))
theorem TX {fs:List Zn} (h:Fls fs) {r:Ze×Int×Bool} (hr:Vt fs 6=r):r.1.all.length≤3∧r.2.1=20∧r.1.last=20:=by
 obtain⟨t,gs,e,p,q,q2⟩:=TV h (n:=6) (by decide)
 rw[show (6:Int)=((6:Nat):Int) from rfl,e] at hr
 subst hr
 exact⟨by rw[q.all.len,p.length_eq];exact h.len,rfl,q2⟩
set_option maxHeartbeats 4000000 in
set_option maxRecDepth 100000 in
theorem VL (A_l:Option Addr) (c_l:Nat) (l:List Int) (later:Int) (w:World) (h_l:Rd w 1 A_l (l.map ic)) (hc_l:l.length≤c_l) (hT:Ua w):Calls Tryz.prog 3 #[.slice A_l l.length c_l,.int .i64 later] w (Ret w (.bool (YX l later))):=by
 have s_l:=h_l.short;rw[List.length_map] at s_l
 refine Zk (vs:=[.slice A_l l.length c_l,.i later]) (w:=w) Tryz.func3 rfl Tryz.ntmps3 rfl (TC.sr (TL.r 1 [] [(4,.b false)] {} (TL.nr (TL.r 1 [] [(19,.slice A_l l.length c_l)] {} (TL.cn (Γ:=AN) 20 (Y6 l) (fun r1 g=>.slice g.1 r1.length g.2) (fun r1 g=>[Ow g.1 g.2 38 6 (r1.map Zn.c)]) (fun w hM=>VW A_l c_l l w (h_l.sat hM) hc_l) {} (fun r1 hr1=>?_))))))
 have kf_:Fls r1:=by rw[← hr1];exact TW l
 rintro⟨A,c⟩
 refine TL.know (fun w hM=>hM.short_at 0 rfl) (fun s_r1_0=>TL.r 3 [] [(5,.slice A r1.length c)] {} (TL.nr (TL.r 1 [] [(22,.slice A r1.length c)] {} (TL.cn (Γ:=Nat×AN) 23 (Vt r1 6) (fun r2 g=>.tuple #[.p0 g.1,.i r2.2.1,.b r2.2.2]) (fun r2 g=>[Bk g.1 (Ze.k r2.1 g.2.1 g.2.2) 118,Ow g.2.1 g.2.2 122 23 (r2.1.all.map followed.c)]) (fun w hM=>O3 A c r1 6 w (Sat.start w) (hM.rd_at 0 rfl) (hM.le_at 0 rfl) (hT.sat hM) ⟨Nat.le_trans kf_.len (by decide),by decide,by decide⟩ (Rt kf_)) {} (fun r2 hr2=>?_)))))
 have kr_:=TX kf_ hr2
 rintro⟨b_r2,A_2,c_2⟩
 refine TL.know (fun w hM=>hM.short_at 1 rfl) (fun s_r2_1=>TL.r 9 [] [(6,.p0 b_r2),(7,.i r2.2.1),(8,.b r2.2.2)] {} (TL.ns (TC.sr (TL.c 27 (X2) (fun r3=>.b r3) (fun w _=>UH w) {} (fun r3 hr3=>TL.r 3 [] [(29,.b (!r3))] {} (TL.j 29 (!r3) 6 [] [] (fun β=>[(32,.b (β||(!r2.2.2)))]) Kr {} {} (TL.next rfl (TC.cond ((!r3)||(!r2.2.2)) rfl Kr (fun h1=>?_) (fun h1=>?_)))))))))
 ·exact TC.sr (TL.r 1 [] [(4,.b false)] {} (TL.next rfl (TC.ret (TE.rt (TE.ret [] (.b false) {} (by unfold YX;refine eS (fun z=>(.b z:Value)) ?_;subst hr1 hr2 hr3;exact Zi h1 (rfl)))))))
 ·refine TC.snr (TL.r 2 [] [(33,.i r2.2.1),(34,.i later)] {} (TL.c 35 (ZO later 0 20) (fun r4=>.i r4) (fun w _=>Qg later 0 20 w (by first|omega|first|decide|omega|(simp only[Y4];omega)|(simp <;> omega))) {} (fun r4 hr4=>TL.r 5 [] [(9,.i (w64 (r2.2.1+r4)))] {} (TL.nr (TL.r 2 [] [(38,.p0 b_r2),(39,.i (w64 (r2.2.1+r4)))] {} (TL.cn (Γ:=AN) 40 (Yd r2.1 (w64 (r2.2.1+r4))) (fun r5 g=>.tuple #[.slice g.1 r5.1.length g.2,.i r5.2]) (fun r5 g=>[Ow g.1 g.2 44 20 (r5.1.map Za.c)]) (fun w hM=>VT ⟨b_r2,0,none⟩ r2.1 A_2 c_2 (w64 (r2.2.1+r4)) w (Rd.lit hM 0 _ rfl Kr Kr Kr) (hM.rd_at 1 rfl) (hM.le_at 1 rfl) sg) {} (fun r5 hr5=>?_)))))))
  rintro⟨A_3,c_3⟩
  refine TL.know (fun w hM=>hM.short_at 0 rfl) (fun s_r5_0=>TL.r 8 [] [(10,.slice A_3 r5.1.length c_3),(11,.i r5.2)] {} (TL.ns (TC.sr (TL.r 3 [] [(45,.b (r5.2 != 0))] {} (TL.j 45 (r5.2 != 0) 9 [] [] (fun β=>[(51,.b (β||((r5.1.length:Int) != (r1.length:Int))))]) Kr {} {} (TL.next rfl (TC.cond ((r5.2 != 0)||((r5.1.length:Int) != (r1.length:Int))) rfl Kr (fun h2=>?_) (fun h2=>?_))))))))
  ·exact TC.sr (TL.r 1 [] [(4,.b false)] {} (TL.next rfl (TC.ret (TE.rt (TE.ret [] (.b false) {} (by unfold YX;refine eS (fun z=>(.b z:Value)) ?_;subst hr1 hr2 hr3 hr4 hr5;exact Zb h1 (Zi h2 (rfl))))))))
  ·have q2_0:=(QG (Zt h2))
   have q2_1:=(QG (ZR h2))
   refine TC.sn (TC.seq (TC.sr (TL.r 3 [] [(52,.slice A r1.length c),(53,.i (r1.length:Int)),(54,.i 0)] {} (TL.next rfl ?_))))
   obtain⟨R1,hR⟩:∃ R,R=Xh r2 r4 r5 r1 0:=⟨_,rfl⟩
   refine TC.cut (S:=Unit) (fun (_:Unit)=>[]) (fun (_:Unit)=>[]) (fun (_:Unit)=>R1=.inl ()) ?_ ?_
   ·refine TC.block (TC.lw (X:=Nat) (fun k=>[(9,.i (w64 (r2.2.1+r4))),(10,.slice A_3 r5.1.length c_3),(52,.slice A r1.length c),(53,.i (r1.length:Int)),(54,.i (k:Int))]) (fun k=>[Ow A_3 c_3 44 20 (r5.1.map Za.c),Ow A c 38 6 (r1.map Zn.c)]) (fun k=>r1.length-k) (fun k=>k≤r1.length∧R1=Xh r2 r4 r5 (r1.drop k) k) ?_ 0 ⟨Nat.zero_le _,hR⟩ Kr (sb 9))
    rintro k ⟨hk,hI⟩
    refine TC.sr (TL.r 1 [] [(55,.b (decide ((k:Int)<(r1.length:Int))))] {} (TL.ns (TC.cond (decide ((k:Int)<(r1.length:Int))) rfl Kr (fun h3=>?_) (fun h3=>?_))))
    ·have hlt:=ltN h3
     obtain⟨x,hx⟩:=elN hlt
     have hd:=drop_at hx
     refine TC.sn (TC.seq (TC.block (TC.sr (TL.v (sV (Instr.indexAt 23 (.slice A r1.length c) (.i (k:Int)))) 56 (.pointer (some (Ix A (k*6)))) (fun w hM=>Zr (hM.rd_at 1 rfl) (by simp) Kr sd sd) {} (TL.v (sV (Instr.loadAt 38 (.pointer (some (Ix A (k*6)))))) 57 (Zn.v x) (fun w hM=>Z6 (n:=6) (off:=0) (i:=k) (Zn.v x) (hM.rd_at 1 rfl) (ZA hx) Kr Kr Kr) {} (TL.nw 13 (fun b1=>.p0 b1) (fun b1=>Bk b1 (Zn.c Zn.zero) 38) (fun b1=>{}) (fun b1=>TL.s 0 (Bk b1 (Zn.c x) 38) (fun _=>{}) (TL.nr (TL.r 1 [] [(14,.i 0)] {} (TL.ns (TC.sr (TL.r 3 [] [(58,.slice A_3 r5.1.length c_3),(59,.i (r5.1.length:Int)),(60,.i 0)] {} (TL.next rfl ?_)))))))))))))
     obtain⟨R2,hR_2⟩:∃ R,R=Y2 r2 r4 x r5.1 0 0:=⟨_,rfl⟩
     refine TC.cut (S:=Int) (fun n_2=>[(9,.i (w64 (r2.2.1+r4))),(10,.slice A_3 r5.1.length c_3),(14,.i n_2),(52,.slice A r1.length c),(53,.i (r1.length:Int)),(54,.i (k:Int))]) (fun n_2=>[Ow A_3 c_3 44 20 (r5.1.map Za.c),Ow A c 38 6 (r1.map Zn.c)]) (fun n_2=>R2=.inl n_2) ?_ ?_
     ·refine TC.block (TC.lw (X:=Nat×Int) (fun (k_2,n)=>[(9,.i (w64 (r2.2.1+r4))),(10,.slice A_3 r5.1.length c_3),(13,.p0 b1),(14,.i n),(52,.slice A r1.length c),(53,.i (r1.length:Int)),(54,.i (k:Int)),(58,.slice A_3 r5.1.length c_3),(59,.i (r5.1.length:Int)),(60,.i (k_2:Int))]) (fun (k_2,n)=>[Bk b1 (Zn.c x) 38,Ow A_3 c_3 44 20 (r5.1.map Za.c),Ow A c 38 6 (r1.map Zn.c)]) (fun (k_2,n)=>r5.1.length-k_2) (fun (k_2,n)=>k_2≤r5.1.length∧R2=Y2 r2 r4 x (r5.1.drop k_2) k_2 n) ?_ (0,0) ⟨Nat.zero_le _,hR_2⟩ Kr (sb 7))
      rintro⟨k_2,n⟩ ⟨hk_2,hI_2⟩
      refine TC.sr (TL.r 1 [] [(61,.b (decide ((k_2:Int)<(r5.1.length:Int))))] {} (TL.ns (TC.cond (decide ((k_2:Int)<(r5.1.length:Int))) rfl Kr (fun h4=>?_) (fun h4=>?_))))
      ·have hlt_2:=ltN h4
       obtain⟨x_2,hx_2⟩:=elN hlt_2
       have hd_2:=drop_at hx_2
       refine TC.sn (TC.seq (TC.block (TC.sr (TL.v (sV (Instr.indexAt 31 (.slice A_3 r5.1.length c_3) (.i (k_2:Int)))) 62 (.pointer (some (Ix A_3 (k_2*20)))) (fun w hM=>Zr (hM.rd_at 1 rfl) (by simp) Kr sd sd) {} (TL.v (sV (Instr.loadAt 44 (.pointer (some (Ix A_3 (k_2*20)))))) 63 (Za.v x_2) (fun w hM=>Z6 (n:=20) (off:=0) (i:=k_2) (Za.v x_2) (hM.rd_at 1 rfl) (ZA hx_2) Kr Kr Kr) {} (TL.nw 16 (fun b2=>.p0 b2) (fun b2=>Bk b2 (Za.c Za.zero) 44) (fun b2=>{}) (fun b2=>TL.s 0 (Bk b2 (Za.c x_2) 44) (fun _=>{}) (TL.nr (TL.r 7 [0,1] [(70,.b (x_2.Track.Code==x.code))] {} (TL.j 70 (x_2.Track.Code==x.code) 12 [0] [] (fun β=>[(75,.b (β&&(x_2.Track.State==1)))]) Kr {} {} (TL.next rfl (TC.cond ((x_2.Track.Code==x.code)&&(x_2.Track.State==1)) rfl Kr (fun h5=>?_) (fun h5=>?_)))))))))))))
       ·have q5_0:=(Yx (Qi h5))
        have q5_1:=(Yx (QO h5))
        refine TC.seq (TC.draw 10 Kr Kr Kr (TQ.r 3 [0,1] [(77,Za.v x_2),(78,Zn.v x),(79,.i (w64 (r2.2.1+r4)))] {} (TQ.c 80 (ZP x (w64 (r2.2.1+r4))) (fun r6=>P.v r6) (fun w _=>Ju x (w64 (r2.2.1+r4)) w) rfl {} (fun r6 hr6=>TQ.c 81 (YH x_2 r6) (fun r7=>.tuple #[.b r7.1,.i r7.2]) (fun w _=>G3 x_2 r6 w) rfl {} (fun r7 hr7=>TQ.r 10 [] [(17,.b r7.1),(18,.i r7.2)] {} (TQ.next rfl (TC.seq (TC.sr (TL.r 3 [] [(86,.b (r7.2 != 0))] {} (TL.j 86 (r7.2 != 0) 6 [] [] (fun β=>[(89,.b (β||(!r7.1)))]) Kr {} {} (TL.next rfl (TC.cond ((r7.2 != 0)||(!r7.1)) rfl Kr (fun h6=>?_) (fun h6=>?_)))))))))))))
        ·refine TC.sr (TL.r 1 [] [(4,.b false)] {} (TL.next rfl (TC.ret (TE.rt (TE.rb (TE.rt (TE.rt (TE.rb (TE.rt (TE.rt (TE.rb (TE.rt (TE.rt (TE.rb (TE.rt (TE.rt ?_))))))))))))))))
         exact TE.ret [] (.b false) {} (by unfold YX;refine eS (fun z=>(.b z:Value)) ?_;subst hr1 hr2 hr3 hr4 hr5 hr6 hr7;exact Zb h1 (Zb h2 (X7 (hR.symm.trans (hI.trans (by rw[hd];exact X7 (hR_2.symm.trans (hI_2.trans (by rw[hd_2];exact Zi h5 (Zi h6 (rfl))))) rfl))) rfl)))
        ·have q6_0:=(QG (Zt h6))
         exact TC.sn (TC.region (TL.r 3 [] [(14,.i (w64 (n+1)))] {} (TL.done rfl (TE.nb (TE.next (TC.region (TL.r 2 [] [(60,.i (w64 ((k_2:Int)+1)))] {} (TL.done rfl (TE.rw 60 (.i (w64 ((k_2:Int)+1))) (.i ((k_2+1:Nat):Int)) Kr (ZD k_2 (by omega)) (TE.again (x:=(k_2,n)) (k_2+1,w64 (n+1)) ⟨by omega,hI_2.trans (by subst hr1 hr2 hr3 hr4 hr5 hr6 hr7;rw[hd_2];exact Zi h5 (Zb h6 (rfl)))⟩ (mN hlt_2) Kr (sb 14)))))))))))
       ·have q5_0:=((Xw h5).imp (fun h=>(ZN h)) (fun h=>(ZN h)))
        exact TC.skip (TE.nb (TE.next (TC.region (TL.r 2 [] [(60,.i (w64 ((k_2:Int)+1)))] {} (TL.done rfl (TE.rw 60 (.i (w64 ((k_2:Int)+1))) (.i ((k_2+1:Nat):Int)) Kr (ZD k_2 (by omega)) (TE.again (x:=(k_2,n)) (k_2+1,n) ⟨by omega,hI_2.trans (by subst hr1 hr2 hr3 hr4 hr5;rw[hd_2];exact Zb h5 (rfl))⟩ (mN hlt_2) Kr (sb 14))))))))
      ·have hd_2:=XL h4
       refine TC.exit (TE.et (TE.et (TE.exit_same ?_)))
       exact TE.cut n (hI_2.trans (by subst hr1 hr2 hr3 hr4 hr5;rw[hd_2];exact rfl)) Kr (sb 6)
     ·rintro n_2 hJ_2
      refine TE.nr (TL.r 2 [] [(94,.b (n_2 != 1))] {} (TL.next rfl (TC.cond (n_2 != 1) rfl Kr (fun h7=>?_) (fun h7=>?_))))
      ·refine TC.sr (TL.r 1 [] [(4,.b false)] {} (TL.next rfl (TC.ret (TE.rb (TE.rt (TE.rt (TE.rb (TE.rt (TE.rt ?_)))))))))
       exact TE.ret [] (.b false) {} (by unfold YX;refine eS (fun z=>(.b z:Value)) ?_;subst hr1 hr2 hr3 hr4 hr5;exact Zb h1 (Zb h2 (X7 (hR.symm.trans (hI.trans (by rw[hd];exact XI (hR_2.symm.trans hJ_2) (Zi h7 (rfl))))) rfl)))
      ·have q7_0:=(QG h7)
       exact TC.skip (TE.nb (TE.next (TC.region (TL.r 2 [] [(54,.i (w64 ((k:Int)+1)))] {} (TL.done rfl (TE.rw 54 (.i (w64 ((k:Int)+1))) (.i ((k+1:Nat):Int)) Kr (ZD k (by omega)) (TE.again (x:=k) (k+1) ⟨by omega,hI.trans (by subst hr1 hr2 hr3 hr4 hr5;rw[hd];exact XI (hR_2.symm.trans hJ_2) (Zb h7 (rfl)))⟩ (mN hlt) Kr (sb 3))))))))
    ·have hd:=XL h3
     refine TC.exit (TE.et (TE.et (TE.exit_same ?_)))
     exact TE.cut () (hI.trans (by subst hr1 hr2 hr3 hr4 hr5;rw[hd];exact rfl)) Kr (sb 0)
   ·intro _ hJ
    exact TE.nr (TL.r 1 [] [(4,.b true)] {} (TL.next rfl (TC.ret (TE.ret [] (.b true) {} (by unfold YX;refine eS (fun z=>(.b z:Value)) ?_;subst hr1 hr2 hr3 hr4 hr5;exact Zb h1 (Zb h2 (XI (hR.symm.trans hJ) (rfl))))))))
end Go.Sky
end
section
namespace Go.Sky
open Go Go.Eng
theorem N4 {c:Int}:∀ ys:List Za,(ys.map fun y=>y.Track.Code).Nodup→c∈ys.map (fun y=>y.Track.Code)→(ys.filter fun y=>y.Track.Code==c).length=1
 | [],_,h=>by cases h
 | y::ys,hn,h=>by
  rw[List.map_cons,List.nodup_cons] at hn
  rw[List.map_cons] at h
  by_cases hy:y.Track.Code=c
  ·rw[List.filter_cons_of_pos (by simpa using hy),List.filter_eq_nil_iff.2 (fun z hz=>?_)]
   ·rfl
   ·intro e
    refine hn.1 ?_
    rw[hy,← show z.Track.Code=c by simpa using e]
    exact List.mem_map.2 ⟨z,hz,rfl⟩
  ·rw[List.filter_cons_of_neg (by simpa using hy)]
   refine N4 ys hn.2 ?_
   rcases List.mem_cons.1 h with h|h
   ·exact absurd h.symm hy
   ·exact h
theorem DV {f:Zn} {r2:Ze×Int×Bool} {r4 T:Int} (hT:w64 (r2.2.1+r4)=T):∀ (ys:List Za) (k:Nat) (n:Int),0≤n→n+ys.length≤1000 →
  (∀ y∈ys,y.Track.Code=f.code→y.Track.State=1∧YH y (ZP f T)=(true,0))→Y2 r2 r4 f ys k n=.inl (n+((ys.filter fun y=>y.Track.Code==f.code).length:Int))
 | [],_,n,_,_,_=>by unfold Y2;simp
 | y::ys,k,n,h0,hn,h=>by
  rw[List.length_cons] at hn
  have ht:=fun y hy=>h y (List.mem_cons_of_mem _ hy)
  unfold Y2
  by_cases hy:y.Track.Code=f.code
  ·have a:=h y (List.mem_cons_self ..) hy
   rw[show (y.Track.Code==f.code)=true by simpa using hy,a.1,show (true&&((1:Int)==1))=true from rfl,cond_true]
   simp only
   rw[hT,a.2]
   simp only
   rw[show (((0:Int) != 0)||(!true))=false from rfl,cond_false,Zm (by omega),DV hT ys (k+1) (n+1) (by omega) (by omega) ht,List.filter_cons_of_pos (by simpa using hy),List.length_cons]
   congr 1
   omega
  ·rw[show (y.Track.Code==f.code)=false by simpa using hy,Bool.false_and,cond_false,DV hT ys (k+1) n h0 (by omega) ht,List.filter_cons_of_neg (by simpa using hy)]
theorem LA {r2:Ze×Int×Bool} {r4 T:Int} (hT:w64 (r2.2.1+r4)=T) {l:List Za} {e:Int} (hl:l.length≤100) (hn:(l.map fun y=>y.Track.Code).Nodup):∀ (xs:List Zn) (k:Nat),
  (∀ f∈xs,f.code∈l.map (fun y=>y.Track.Code)∧∀ y∈l,y.Track.Code=f.code→y.Track.State=1∧YH y (ZP f T)=(true,0))→Xh r2 r4 (l,e) xs k=.inl ()
 | [],_,_=>rfl
 | f::xs,k,h=>by
  have a:=h f (List.mem_cons_self ..)
  unfold Xh
  simp only
  rw[DV hT l 0 0 (by decide) (by omega) a.2,N4 l hn a.1]
  exact LA hT hl hn xs (k+1) fun f hf=>h f (List.mem_cons_of_mem _ hf)
theorem HH (x0:List Int) (x1:Int) (_s0:x0.length<4611686018427387904) (_k0:∀ a∈x0,Go.Glue.I64 a) (_k1:Go.Glue.I64 x1):YX x0 x1=true:=by
 have hfl:=TW x0
 unfold YX
 dsimp only
 rw[NQ,Bool.not_true,Bool.false_or]
 generalize Y6 x0=fs at hfl
 obtain⟨t,gs,e,p,q,q2⟩:=TV hfl (n:=6) (by decide)
 rw[show Vt fs 6=(t,((4*(6-1):Nat):Int),true) from e]
 simp only[Bool.not_true,cond_false]
 generalize hr4:ZO x1 0 20=r4
 have b:=Vp hr4 (by decide) (by decide) (by decide)
 obtain⟨d,rfl⟩:∃ d:Nat,r4=(d:Int):=⟨r4.toNat,by omega⟩
 have hT:w64 (((4*(6-1):Nat):Int)+(d:Int))=((4*(6-1)+d:Nat):Int):=by rw[Zm (by omega)];omega
 have g:=hfl.perm p
 obtain⟨l,l1,l2⟩:=E0 g.fly q (d:=d) (by decide) (by omega) (by rw[q2];omega)
 rw[hT,l1]
 have hlen:l.length=fs.length:=by rw[l2.len,p.length_eq]
 simp only
 rw[hlen,show (((0:Int) != 0)||((fs.length:Int) != (fs.length:Int)))=false by simp,cond_false]
 have hcode:l.map (fun y=>y.Track.Code)=gs.map fun f=>f.code:=(l2.maps (f:=fun f=>f.code) (g:=fun y=>y.Track.Code) fun f y ⟨x,_,_,_,h,_⟩=>h.symm).symm
 rw[LA (T:=((4*(6-1)+d:Nat):Int)) hT (by have:=hfl.len;omega) (by rw[hcode];exact g.code) fs 0 (fun f hf=>⟨by rw[hcode];exact List.mem_map.2 ⟨f,p.mem_iff.2 hf,rfl⟩,fun y hy hc=>?_⟩)]
 ·rfl
 ·obtain⟨f',f1,x,_,hx,hs,hc',hcon⟩:=l2.right hy
  have:f'=f:=VZ (c:=fun f=>f.code) g.code f1 (p.mem_iff.2 hf) (by rw[← hc',hc])
  subst this
  exact⟨by rw[hs];exact hx.1,hcon⟩
end Go.Sky
end
