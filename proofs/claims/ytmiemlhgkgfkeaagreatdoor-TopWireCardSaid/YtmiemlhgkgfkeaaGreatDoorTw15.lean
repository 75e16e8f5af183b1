/- Lemmas toward the given statement (part 15 of 20): Vd Vc Best Ve Scn. Each theorem states its own conditions; nothing is assumed beyond them. -/
import Derived.Test.YtmiemlhgkgfkeaaGreatDoorTw13
import Derived.Test.YtmiemlhgkgfkeaaGreatDoorTw14
import Derived.Test.YtmiemlhgkgfkeaaGreatDoorTw12
import Derived.Test.YtmiemlhgkgfkeaaGreatDoorTw11
import Derived.Test.YtmiemlhgkgfkeaaGreatDoorTw03
set_option maxRecDepth 100000
section
namespace Go.Sky
open Go Go.Eng Go.Proofs
set_option maxHeartbeats 4000000 in
theorem Uh (A_costs:Option Addr) (qe:Nat) (qa:List (List Int)) (qf:List (Sl Int)) (qb:Int) (from_:Int) (A_taken:Option Addr) (zn:Nat) (taken:List Bool) (w:World) (zk:Rd w 1 A_costs (qf.map Sl.c)) (jk:qa.length≤qe) (zg:∀ s∈qf,s.rd w 1 ic) (qm:qa=qf.map Sl.l) (uu:Rd w 1 A_taken (taken.map bc)) (pn:taken.length≤zn) (hg:Good qa (qa[0]?.getD []).length qb) (hfr:0≤from_∧from_≤(qa.length:Int)) (htk:taken.length=(qa[0]?.getD []).length):Calls Tryz.prog 88 #[.slice A_costs qa.length qe,.int .i64 qb,.int .i64 from_,.slice A_taken taken.length zn] w (Ret w (.int .i64 (ZM qa qb from_ taken))):=by
 have vi:=zk.short;rw[← KO qm] at vi
 have dr:=uu.short;rw[aF] at dr
 refine Zo (vs:=[.slice A_costs qa.length qe,.i qb,.i from_,.slice A_taken taken.length zn]) (w:=w) Tryz.func88 rfl Tryz.ntmps88 rfl (Ze (ZH 5 (fun b1=>.p0 b1) (fun b1=>Bk b1 #[.i qb] 3) (fun b1=>{}) (fun b1=>ZH 7 (fun b2=>.p0 b2) (fun b2=>Bk b2 #[.slice A_taken taken.length zn] 119) (fun b2=>{}) (fun b2=>Zc 3 [] [(8,.i 0)] {} (Zv (Zc 2 [] [(31,.slice A_costs qa.length qe),(32,.i from_)] {} ?_))))))
 obtain⟨A1,hA1⟩:∃ A0_,A0_=(if qe=from_.toNat then A_costs else A_costs.map (fun a=>a.add (from_.toNat*1))):=⟨_,rfl⟩
 have hR1:Rd w 1 A1 ((qf.drop from_.toNat).map Sl.c):=by rw[hA1];exact zk.dropMap _ (Ad qm jk)
 have hC1:(qa.drop from_.toNat).length≤(qe-from_.toNat):=by simp only[bU];omega
 refine TL.v (sV (Instr.sliceAt 114 (.slice A_costs qa.length qe) (some (.i from_)) none none)) 33 (.slice A1 ((qa.drop from_.toNat).length) (qe-from_.toNat)) (fun w hM=>(VU from_.toNat qa.length Kr (.inr ⟨_,_,rfl,sd,rfl⟩) (.inl ⟨rfl,rfl⟩) sd (by omega)).trans (by rw[hA1];congr 3;simp only[bU])) {} (ZH 9 (fun b3=>.p0 b3) (fun b3=>Bk b3 #[.slice none 0 0] 114) (fun b3=>{}) (fun b3=>Ym 0 (Bk b3 #[.slice A1 ((qa.drop from_.toNat).length) (qe-from_.toNat)] 114) (fun _=>{}) (Zv (Zc 3 [0] [(10,.i ((qa.drop from_.toNat).length:Int))] {} ?_))))
 generalize hr1:((qa.drop from_.toNat).length:Int)=r1
 refine Zz (Ze (Zc 2 [] [(37,.b (r1==0))] {} (Zb rfl (TC.cond (r1==0) rfl Kr (fun h1=>?_) (fun h1=>?_)))))
 ·exact Ze (Zc 1 [] [(8,.i 0)] {} (Zb rfl (TC.ret (Zq (TE.ret [] (.i 0) {} (by unfold ZM;refine eS (fun z=>(.i z:Value)) ?_;subst hr1;exact Zk h1 (rfl)))))))
 ·have j4:=(Yh h1)
  refine ZI (Zc 1 [0] [(38,.slice A1 ((qa.drop from_.toNat).length) (qe-from_.toNat))] {} (TL.v (sV (Instr.indexAt 114 (.slice A1 ((qa.drop from_.toNat).length) (qe-from_.toNat)) (.i 0))) 39 (.pointer (some (Ix A1 (0*1)))) (fun w hM=>Zy (hR1.sat hM) (KO (GT qm from_.toNat)) Kr sd sd) {} ?_))
  have w8:=(KT (Ko (FX zg from_.toNat) 0) (KN (GT qm from_.toNat) 0)).short;rw[aF] at w8
  refine TL.v (sV (Instr.loadAt 22 (.pointer (some (Ix A1 (0*1)))))) 40 (.slice (((qf.drop from_.toNat)[0]?.getD Sl.zero).A) (((qa.drop from_.toNat)[0]?.getD []).length) (((qf.drop from_.toNat)[0]?.getD Sl.zero).cap)) (fun w hM=>(by have h:=Z3 (P:=Tryz.prog) (T:=22) (off:=0) (i:=0) (.slice ((qf.drop from_.toNat)[0]?.getD Sl.zero).A ((qf.drop from_.toNat)[0]?.getD Sl.zero).l.length ((qf.drop from_.toNat)[0]?.getD Sl.zero).cap) (hR1.sat hM) (ZR (getD_at _ _ Sl.zero (WP (GT qm from_.toNat) sd))) Kr Kr;rw[(KN (GT qm from_.toNat) 0)] at h;exact h)) {} (Zc 4 [] [(41,.i (((qa.drop from_.toNat)[0]?.getD []).length:Int))] {} (ZH 11 (fun b4=>.p0 b4) (fun b4=>Bk b4 #[.i 0] 3) (fun b4=>{}) (fun b4=>Ym 0 (Bk b4 #[.i (((qa.drop from_.toNat)[0]?.getD []).length:Int)] 3) (fun _=>{}) (Zv (Zc 4 [0] [(12,.i (w64 ((((qa.drop from_.toNat)[0]?.getD []).length:Int)+r1)))] {} ?_)))))
  generalize hr2:w64 ((((qa.drop from_.toNat)[0]?.getD []).length:Int)+r1)=r2
  have ks_:=AV (taken:=taken) hg h1 hr1 hr2;have kf_:=ks_.facts
  refine Zv (Zc 2 [] [(13,.func (.func 125) #[] #[.p0 b4,.p0 b1,.p0 b2,.p0 b3])] {} (Zz ?_))
  have nt:w64 (r1+1)=(((w64 (r1+1)).toNat:Nat):Int):=(bN sd).symm
  have nu:w64 (r2+1)=(((w64 (r2+1)).toNat:Nat):Int):=(bN sd).symm
  let Mr8_:Mem:=[Bk b4 #[.i (((qa.drop from_.toNat)[0]?.getD []).length:Int)] 3,Bk b3 #[.slice A1 ((qa.drop from_.toNat).length) (qe-from_.toNat)] 114,Bk b2 #[.slice A_taken taken.length zn] 119,Bk b1 #[.i qb] 3]
  refine Jt (G:=AN×AN) (base:=[(10,.i r1),(12,.i r2),(13,.func (.func 125) #[] #[.p0 b4,.p0 b1,.p0 b2,.p0 b3])]) (vals:=fun γ=>[.i r1,.i (w64 (r1+1)),.slice (γ.1.1) ((List.replicate ((w64 (r1+1)).toNat) (0:Int)).length) (γ.1.2),.i r2,.i (w64 (r2+1)),.slice (γ.2.1) ((List.replicate ((w64 (r2+1)).toNat) (0:Int)).length) (γ.2.2),.slice (γ.1.1) ((List.replicate ((w64 (r1+1)).toNat) (0:Int)).length) (γ.1.2),.slice (γ.2.1) ((List.replicate ((w64 (r2+1)).toNat) (0:Int)).length) (γ.2.2)]) (writes:=[2,5]) (mem:=fun bs γ=>match bs with | [x2_,x5_]=>(bif x2_ then [Ow (γ.1.1) (γ.1.2) 3 1 ((List.replicate ((w64 (r1+1)).toNat) (0:Int)).map ic)] else [])++((bif x5_ then [Ow (γ.2.1) (γ.2.2) 3 1 ((List.replicate ((w64 (r2+1)).toNat) (0:Int)).map ic)] else [])++(Mr8_))|_=>[]) ((none,0),(none,0)) (fun γ=>[(10,.i r1),(12,.i r2),(13,.func (.func 125) #[] #[.p0 b4,.p0 b1,.p0 b2,.p0 b3]),(14,.slice (γ.1.1) ((List.replicate ((w64 (r1+1)).toNat) (0:Int)).length) (γ.1.2)),(15,.slice (γ.2.1) ((List.replicate ((w64 (r2+1)).toNat) (0:Int)).length) (γ.2.2))]) Kr Kr Kr Kr Kr (fun γ=>Kr) (fun _ hM=>hM) (fun γ=>Kr) ?_ ?_
  ·skip
   exact Steps.run (i:=0) 2 [0,0] Mr8_ Kr Kr (fun S (γ:AN×AN) w hM=>by rw[mS2 rfl rfl] at hM;exact hM.sub (Zh (Zh (aA _)))) Kr (fun (γ:AN×AN)=>{}) (Steps.op (i:=2) (Γ:=AN) (fun g (γ:AN×AN)=>(g,γ.2)) (fun _=>[]) (fun g (γ:AN×AN)=>[Ow (g.1) (g.2) 3 1 ((List.replicate ((w64 (r1+1)).toNat) (0:Int)).map ic)]) (fun S (γ:AN×AN)=>(bif S 5 then [Ow (γ.2.1) (γ.2.2) 3 1 ((List.replicate ((w64 (r2+1)).toNat) (0:Int)).map ic)] else [])++(Mr8_)) [2,6,7] (fun (γ:AN×AN)=>sV (Instr.makeSlice 22 (.i (w64 (r1+1))) (.i (w64 (r1+1))))) (some 48) (fun g (γ:AN×AN)=>.slice (g.1) ((List.replicate ((w64 (r1+1)).toNat) (0:Int)).length) (g.2)) (fun S (γ:AN×AN) hj hd hl=>by rw[mS2 hj rfl];exact aC _) (fun S (γ:AN×AN) g _=>(aC _).symm) (fun (γ:AN×AN) M' w hM=>(by have h:=V0 (P:=Tryz.prog) (c:=ic) (t:=22) (e:=3) (sz:=1) (bytes:=8) 0 .i64 .i64 ((w64 (r1+1)).toNat) Kr Kr sd sd w hM;rw[← nt] at h;exact h)) (fun (γ:AN×AN)=>Kr) (fun (γ:AN×AN) g=>Kr) Kr (fun (γ:AN×AN) g=>Kr) (Steps.run (i:=3) 5 [0,0] Mr8_ Kr Kr (fun S (γ:AN×AN) w hM=>by rw[mS2 rfl rfl] at hM;exact hM.sub (Zh (Zh (aA _)))) Kr (fun (γ:AN×AN)=>{}) (Steps.op (i:=5) (Γ:=AN) (fun g (γ:AN×AN)=>(γ.1,g)) (fun _=>[]) (fun g (γ:AN×AN)=>[Ow (g.1) (g.2) 3 1 ((List.replicate ((w64 (r2+1)).toNat) (0:Int)).map ic)]) (fun S (γ:AN×AN)=>(bif S 2 then [Ow (γ.1.1) (γ.1.2) 3 1 ((List.replicate ((w64 (r1+1)).toNat) (0:Int)).map ic)] else [])++(Mr8_)) [5,7] (fun (γ:AN×AN)=>sV (Instr.makeSlice 22 (.i (w64 (r2+1))) (.i (w64 (r2+1))))) (some 51) (fun g (γ:AN×AN)=>.slice (g.1) ((List.replicate ((w64 (r2+1)).toNat) (0:Int)).length) (g.2)) (fun S (γ:AN×AN) hj hd hl=>by rw[mS2 rfl hj];exact(aB _ (aC _)).trans (ZP _ _ _)) (fun S (γ:AN×AN) g _=>((aB _ (aC _)).trans (ZP _ _ _)).symm) (fun (γ:AN×AN) M' w hM=>(by have h:=V0 (P:=Tryz.prog) (c:=ic) (t:=22) (e:=3) (sz:=1) (bytes:=8) 0 .i64 .i64 ((w64 (r2+1)).toNat) Kr Kr sd sd w hM;rw[← nu] at h;exact h)) (fun (γ:AN×AN)=>Kr) (fun (γ:AN×AN) g=>Kr) Kr (fun (γ:AN×AN) g=>Kr) (Steps.run (i:=6) 8 [0,0] Mr8_ Kr Kr (fun S (γ:AN×AN) w hM=>by rw[mS2 rfl rfl] at hM;exact hM.sub (Zh (Zh (aA _)))) Kr (fun (γ:AN×AN)=>{}) (XH Kr)))))
  ·rintro⟨⟨A,c⟩,⟨A_2,c_2⟩⟩
   refine Yp [Ow A c 3 1 ((List.replicate ((w64 (r1+1)).toNat) (0:Int)).map ic),Ow A_2 c_2 3 1 ((List.replicate ((w64 (r2+1)).toNat) (0:Int)).map ic),Bk b4 #[.i (((qa.drop from_.toNat)[0]?.getD []).length:Int)] 3,Bk b3 #[.slice A1 ((qa.drop from_.toNat).length) (qe-from_.toNat)] 114,Bk b2 #[.slice A_taken taken.length zn] 119,Bk b1 #[.i qb] 3] (fun _ hM=>hM) (Z4 (TC.seq ?_))
   have nv:w64 (r2+1)=(((w64 (r2+1)).toNat:Nat):Int):=(bN sd).symm
   have ny:w64 (r2+1)=(((w64 (r2+1)).toNat:Nat):Int):=(bN sd).symm
   let Mr9_:Mem:=[Ow A c 3 1 ((List.replicate ((w64 (r1+1)).toNat) (0:Int)).map ic),Ow A_2 c_2 3 1 ((List.replicate ((w64 (r2+1)).toNat) (0:Int)).map ic),Bk b4 #[.i (((qa.drop from_.toNat)[0]?.getD []).length:Int)] 3,Bk b3 #[.slice A1 ((qa.drop from_.toNat).length) (qe-from_.toNat)] 114,Bk b2 #[.slice A_taken taken.length zn] 119,Bk b1 #[.i qb] 3]
   refine Jt (G:=AN×AN) (base:=[(10,.i r1),(12,.i r2),(13,.func (.func 125) #[] #[.p0 b4,.p0 b1,.p0 b2,.p0 b3]),(14,.slice A ((List.replicate ((w64 (r1+1)).toNat) (0:Int)).length) c),(15,.slice A_2 ((List.replicate ((w64 (r2+1)).toNat) (0:Int)).length) c_2)]) (vals:=fun γ=>[.i r2,.i (w64 (r2+1)),.slice (γ.1.1) ((List.replicate ((w64 (r2+1)).toNat) (0:Int)).length) (γ.1.2),.i r2,.i (w64 (r2+1)),.slice (γ.2.1) ((List.replicate ((w64 (r2+1)).toNat) (0:Int)).length) (γ.2.2),.slice (γ.1.1) ((List.replicate ((w64 (r2+1)).toNat) (0:Int)).length) (γ.1.2),.slice (γ.2.1) ((List.replicate ((w64 (r2+1)).toNat) (0:Int)).length) (γ.2.2)]) (writes:=[2,5]) (mem:=fun bs γ=>match bs with | [x2_,x5_]=>(bif x2_ then [Ow (γ.1.1) (γ.1.2) 3 1 ((List.replicate ((w64 (r2+1)).toNat) (0:Int)).map ic)] else [])++((bif x5_ then [Ow (γ.2.1) (γ.2.2) 3 1 ((List.replicate ((w64 (r2+1)).toNat) (0:Int)).map ic)] else [])++(Mr9_))|_=>[]) ((none,0),(none,0)) (fun γ=>[(10,.i r1),(12,.i r2),(13,.func (.func 125) #[] #[.p0 b4,.p0 b1,.p0 b2,.p0 b3]),(14,.slice A ((List.replicate ((w64 (r1+1)).toNat) (0:Int)).length) c),(15,.slice A_2 ((List.replicate ((w64 (r2+1)).toNat) (0:Int)).length) c_2),(16,.slice (γ.1.1) ((List.replicate ((w64 (r2+1)).toNat) (0:Int)).length) (γ.1.2)),(17,.slice (γ.2.1) ((List.replicate ((w64 (r2+1)).toNat) (0:Int)).length) (γ.2.2))]) Kr Kr Kr Kr Kr (fun γ=>Kr) (fun _ hM=>hM) (fun γ=>Kr) ?_ ?_
   ·skip
    exact Steps.run (i:=0) 2 [0,0] Mr9_ Kr Kr (fun S (γ:AN×AN) w hM=>by rw[mS2 rfl rfl] at hM;exact hM.sub (Zh (Zh (aA _)))) Kr (fun (γ:AN×AN)=>{}) (Steps.op (i:=2) (Γ:=AN) (fun g (γ:AN×AN)=>(g,γ.2)) (fun _=>[]) (fun g (γ:AN×AN)=>[Ow (g.1) (g.2) 3 1 ((List.replicate ((w64 (r2+1)).toNat) (0:Int)).map ic)]) (fun S (γ:AN×AN)=>(bif S 5 then [Ow (γ.2.1) (γ.2.2) 3 1 ((List.replicate ((w64 (r2+1)).toNat) (0:Int)).map ic)] else [])++(Mr9_)) [2,6,7] (fun (γ:AN×AN)=>sV (Instr.makeSlice 22 (.i (w64 (r2+1))) (.i (w64 (r2+1))))) (some 54) (fun g (γ:AN×AN)=>.slice (g.1) ((List.replicate ((w64 (r2+1)).toNat) (0:Int)).length) (g.2)) (fun S (γ:AN×AN) hj hd hl=>by rw[mS2 hj rfl];exact aC _) (fun S (γ:AN×AN) g _=>(aC _).symm) (fun (γ:AN×AN) M' w hM=>(by have h:=V0 (P:=Tryz.prog) (c:=ic) (t:=22) (e:=3) (sz:=1) (bytes:=8) 0 .i64 .i64 ((w64 (r2+1)).toNat) Kr Kr sd sd w hM;rw[← nv] at h;exact h)) (fun (γ:AN×AN)=>Kr) (fun (γ:AN×AN) g=>Kr) Kr (fun (γ:AN×AN) g=>Kr) (Steps.run (i:=3) 5 [0,0] Mr9_ Kr Kr (fun S (γ:AN×AN) w hM=>by rw[mS2 rfl rfl] at hM;exact hM.sub (Zh (Zh (aA _)))) Kr (fun (γ:AN×AN)=>{}) (Steps.op (i:=5) (Γ:=AN) (fun g (γ:AN×AN)=>(γ.1,g)) (fun _=>[]) (fun g (γ:AN×AN)=>[Ow (g.1) (g.2) 3 1 ((List.replicate ((w64 (r2+1)).toNat) (0:Int)).map ic)]) (fun S (γ:AN×AN)=>(bif S 2 then [Ow (γ.1.1) (γ.1.2) 3 1 ((List.replicate ((w64 (r2+1)).toNat) (0:Int)).map ic)] else [])++(Mr9_)) [5,7] (fun (γ:AN×AN)=>sV (Instr.makeSlice 22 (.i (w64 (r2+1))) (.i (w64 (r2+1))))) (some 57) (fun g (γ:AN×AN)=>.slice (g.1) ((List.replicate ((w64 (r2+1)).toNat) (0:Int)).length) (g.2)) (fun S (γ:AN×AN) hj hd hl=>by rw[mS2 rfl hj];exact(aB _ (aC _)).trans (ZP _ _ _)) (fun S (γ:AN×AN) g _=>((aB _ (aC _)).trans (ZP _ _ _)).symm) (fun (γ:AN×AN) M' w hM=>(by have h:=V0 (P:=Tryz.prog) (c:=ic) (t:=22) (e:=3) (sz:=1) (bytes:=8) 0 .i64 .i64 ((w64 (r2+1)).toNat) Kr Kr sd sd w hM;rw[← ny] at h;exact h)) (fun (γ:AN×AN)=>Kr) (fun (γ:AN×AN) g=>Kr) Kr (fun (γ:AN×AN) g=>Kr) (Steps.run (i:=6) 8 [0,0] Mr9_ Kr Kr (fun S (γ:AN×AN) w hM=>by rw[mS2 rfl rfl] at hM;exact hM.sub (Zh (Zh (aA _)))) Kr (fun (γ:AN×AN)=>{}) (XH Kr)))))
   ·rintro⟨⟨A_3,c_3⟩,⟨A_4,c_4⟩⟩
    refine Yp [Ow A_3 c_3 3 1 ((List.replicate ((w64 (r2+1)).toNat) (0:Int)).map ic),Ow A_4 c_4 3 1 ((List.replicate ((w64 (r2+1)).toNat) (0:Int)).map ic),Ow A c 3 1 ((List.replicate ((w64 (r1+1)).toNat) (0:Int)).map ic),Ow A_2 c_2 3 1 ((List.replicate ((w64 (r2+1)).toNat) (0:Int)).map ic),Bk b4 #[.i (((qa.drop from_.toNat)[0]?.getD []).length:Int)] 3,Bk b3 #[.slice A1 ((qa.drop from_.toNat).length) (qe-from_.toNat)] 114,Bk b2 #[.slice A_taken taken.length zn] 119,Bk b1 #[.i qb] 3] (fun _ hM=>hM) (Z4 (TC.seq (Ze (Zc 1 [] [(18,.i 1)] {} (Zb rfl ?_)))))
    obtain⟨R5,hR⟩:∃ R,R=Jw qa qb from_ taken r2 r1.toNat 0 (List.replicate ((w64 (r1+1)).toNat) (0:Int)) (List.replicate ((w64 (r2+1)).toNat) (0:Int)) (List.replicate ((w64 (r2+1)).toNat) (0:Int)) (List.replicate ((w64 (r2+1)).toNat) (0:Int)):=⟨_,rfl⟩
    refine TC.cut (S:=(List Int)×(List Int)×(List Int)×(List Int)) (fun (u_2,v_2,qx,uc)=>[(12,.i r2),(13,.func (.func 125) #[] #[.p0 b4,.p0 b1,.p0 b2,.p0 b3]),(16,.slice A_3 qx.length c_3)]) (fun (u_2,v_2,qx,uc)=>[Ow A_3 c_3 3 1 (qx.map ic),Bk b4 #[.i (((qa.drop from_.toNat)[0]?.getD []).length:Int)] 3,Bk b3 #[.slice A1 ((qa.drop from_.toNat).length) (qe-from_.toNat)] 114,Bk b2 #[.slice A_taken taken.length zn] 119,Bk b1 #[.i qb] 3]) (fun (u_2,v_2,qx,uc)=>R5=(u_2,v_2,qx,uc)∧u_2.length=((w64 (r1+1)).toNat)∧v_2.length=((w64 (r2+1)).toNat)∧qx.length=((w64 (r2+1)).toNat)∧uc.length=((w64 (r2+1)).toNat)∧(KX r1.toNat r2.toNat (cst qa qb from_ taken) r1.toNat u_2 v_2 qx uc)) ?_ ?_
    ·refine TC.block (TC.rw 18 (.i 1) (.i (1+((0:Nat):Int))) Kr (int_eq (by first|omega|(rw[Zu (by omega)];omega)|(simp only[Ya];omega))) (XB (X:=Nat×(List Int)×(List Int)×(List Int)×(List Int)) (fun (k,u,v,row,way)=>[(10,.i r1),(12,.i r2),(13,.func (.func 125) #[] #[.p0 b4,.p0 b1,.p0 b2,.p0 b3]),(14,.slice A u.length c),(15,.slice A_2 v.length c_2),(16,.slice A_3 row.length c_3),(17,.slice A_4 way.length c_4),(18,.i (1+(k:Int)))]) (fun (k,u,v,row,way)=>[Ow A_3 c_3 3 1 (row.map ic),Ow A_4 c_4 3 1 (way.map ic),Ow A c 3 1 (u.map ic),Ow A_2 c_2 3 1 (v.map ic),Bk b4 #[.i (((qa.drop from_.toNat)[0]?.getD []).length:Int)] 3,Bk b3 #[.slice A1 ((qa.drop from_.toNat).length) (qe-from_.toNat)] 114,Bk b2 #[.slice A_taken taken.length zn] 119,Bk b1 #[.i qb] 3]) (fun (k,u,v,row,way)=>r1.toNat-k) (fun (k,u,v,row,way)=>k≤r1.toNat∧R5=Jw qa qb from_ taken r2 (r1.toNat-k) k u v row way∧u.length=((w64 (r1+1)).toNat)∧v.length=((w64 (r2+1)).toNat)∧row.length=((w64 (r2+1)).toNat)∧way.length=((w64 (r2+1)).toNat)∧(KX r1.toNat r2.toNat (cst qa qb from_ taken) k u v row way)) ?_ (0,(List.replicate ((w64 (r1+1)).toNat) (0:Int)),(List.replicate ((w64 (r2+1)).toNat) (0:Int)),(List.replicate ((w64 (r2+1)).toNat) (0:Int)),(List.replicate ((w64 (r2+1)).toNat) (0:Int))) ⟨aN _,hR,sz,sz,sz,sz,(TM ks_)⟩ Kr (sb 255)))
     rintro⟨k,u,v,row,way⟩ ⟨hk,hI,oq,ot,ra,ez,jl⟩
     refine TC.seq (Ze (Zc 3 [] [(60,.b (decide ((1+(k:Int))≤r1)))] {} (Zb rfl (TC.cond (decide ((1+(k:Int))≤r1)) rfl Kr (fun h2=>?_) (fun h2=>?_)))))
     ·have hlt:k<r1.toNat:=by have p0_:=(Ys h2);first|omega|(simp only[Ya] at *;omega)
      have hd:r1.toNat-k=(r1.toNat-(k+1))+1:=by omega
      have vr:=(Ys h2)
      refine Yg (TC.seq (TC.block (Ze (Zc 2 [] [(63,.slice A_3 row.length c_3),(64,.i (1+(k:Int)))] {} (TL.v (sV (Instr.indexAt 22 (.slice A_3 row.length c_3) (.i 0))) 65 (.pointer (some (Ix A_3 (0*1)))) (fun w hM=>Zy (hM.rd_at 0 rfl) (by simp) Kr sd sd) {} (Uk (Γ:=Unit) (sU (Instr.storeAt 3 (.pointer (some ((Ix A_3 (0*1)).add 0))) (.i (1+(k:Int))))) 0 (Ow A_3 c_3 3 1 ((row.set 0 (1+(k:Int))).map ic)) (X5 (n:=1) (off:=0) (.i (1+(k:Int))) 0 ((row.set 0 (1+(k:Int))).map ic) rfl (ZR (getD_at _ _ 0 sd)) Kr Kr Kr Kr (Qn Kr)) Kr (TL.rw 16 (.slice A_3 row.length c_3) (.slice A_3 ((row.set 0 (1+(k:Int))).length) c_3) Kr (by simp only[aQ]) (Zv (Zc 1 [] [(19,.i 0)] {} (Zv (Zc 2 [] [(67,.i (w64 (r2+1)))] {} (TL.rw 67 (.i (w64 (r2+1))) (.i (((w64 (r2+1)).toNat:Nat):Int)) Kr (int_eq (bN sd).symm) (TL.on (Γ:=AN) (sV (Instr.makeSlice 22 (.i (((w64 (r2+1)).toNat:Nat):Int)) (.i (((w64 (r2+1)).toNat:Nat):Int)))) 68 (fun g=>.slice g.1 (List.replicate ((w64 (r2+1)).toNat) (0:Int)).length g.2) (fun g=>Ow g.1 g.2 3 1 ((List.replicate ((w64 (r2+1)).toNat) (0:Int)).map ic)) (V0 (P:=Tryz.prog) (c:=ic) (t:=22) (e:=3) (sz:=1) (bytes:=8) 0 .i64 .i64 ((w64 (r2+1)).toNat) Kr Kr sd sd) {} ?_)))))))))))))
      rintro⟨A_5,c_5⟩
      refine Zc 4 [] [(20,.slice A_5 ((List.replicate ((w64 (r2+1)).toNat) (0:Int)).length) c_5)] {} (Zz (Ze (Zc 3 [] [(70,.i ((List.replicate ((w64 (r2+1)).toNat) (0:Int)).length:Int)),(71,.i 0)] {} (Zb rfl ?_))))
      obtain⟨R7,x9⟩:∃ R,R=Xu ((w64 (r2+1)).toNat) 0 (List.replicate ((w64 (r2+1)).toNat) (0:Int)):=⟨_,rfl⟩
      refine TC.cut (S:=(List Int)) (fun je=>[(10,.i r1),(12,.i r2),(13,.func (.func 125) #[] #[.p0 b4,.p0 b1,.p0 b2,.p0 b3]),(14,.slice A u.length c),(15,.slice A_2 v.length c_2),(16,.slice A_3 ((row.set 0 (1+(k:Int))).length) c_3),(17,.slice A_4 way.length c_4),(18,.i (1+(k:Int))),(19,.i 0),(20,.slice A_5 je.length c_5)]) (fun je=>[Ow A_5 c_5 3 1 (je.map ic),Ow A_3 c_3 3 1 ((row.set 0 (1+(k:Int))).map ic),Ow A_4 c_4 3 1 (way.map ic),Ow A c 3 1 (u.map ic),Ow A_2 c_2 3 1 (v.map ic),Bk b4 #[.i (((qa.drop from_.toNat)[0]?.getD []).length:Int)] 3,Bk b3 #[.slice A1 ((qa.drop from_.toNat).length) (qe-from_.toNat)] 114,Bk b2 #[.slice A_taken taken.length zn] 119,Bk b1 #[.i qb] 3]) (fun je=>R7=je∧je.length=((w64 (r2+1)).toNat)) ?_ ?_
      ·refine TC.block (XB (X:=Nat×(List Int)) (fun (k_2,low)=>[(10,.i r1),(12,.i r2),(13,.func (.func 125) #[] #[.p0 b4,.p0 b1,.p0 b2,.p0 b3]),(14,.slice A u.length c),(15,.slice A_2 v.length c_2),(16,.slice A_3 ((row.set 0 (1+(k:Int))).length) c_3),(17,.slice A_4 way.length c_4),(18,.i (1+(k:Int))),(19,.i 0),(20,.slice A_5 low.length c_5),(70,.i ((List.replicate ((w64 (r2+1)).toNat) (0:Int)).length:Int)),(71,.i (k_2:Int))]) (fun (k_2,low)=>[Ow A_5 c_5 3 1 (low.map ic),Ow A_3 c_3 3 1 ((row.set 0 (1+(k:Int))).map ic),Ow A_4 c_4 3 1 (way.map ic),Ow A c 3 1 (u.map ic),Ow A_2 c_2 3 1 (v.map ic),Bk b4 #[.i (((qa.drop from_.toNat)[0]?.getD []).length:Int)] 3,Bk b3 #[.slice A1 ((qa.drop from_.toNat).length) (qe-from_.toNat)] 114,Bk b2 #[.slice A_taken taken.length zn] 119,Bk b1 #[.i qb] 3]) (fun (k_2,low)=>((w64 (r2+1)).toNat)-k_2) (fun (k_2,low)=>k_2≤((w64 (r2+1)).toNat)∧R7=Xu (((w64 (r2+1)).toNat)-k_2) k_2 low∧low.length=((w64 (r2+1)).toNat)) ?_ (0,(List.replicate ((w64 (r2+1)).toNat) (0:Int))) ⟨aN _,x9,sz⟩ Kr (sb 511))
       rintro⟨k_2,low⟩ ⟨y9,xg,e9⟩
       refine Ze (Zc 1 [] [(72,.b (decide ((k_2:Int)<((List.replicate ((w64 (r2+1)).toNat) (0:Int)).length:Int))))] {} (Zz (TC.cond (decide ((k_2:Int)<((List.replicate ((w64 (r2+1)).toNat) (0:Int)).length:Int))) rfl Kr (fun h3=>?_) (fun h3=>?_))))
       ·have zp:k_2<((w64 (r2+1)).toNat):=by have:=of_decide_eq_true h3;first|omega|(simp at this;omega)
        have zr:((w64 (r2+1)).toNat)-k_2=(((w64 (r2+1)).toNat)-(k_2+1))+1:=by omega
        exact Yg (TC.seq (TC.block (Ze (Zc 2 [] [(21,.i (k_2:Int))] {} (Zb rfl (TC.region (Zc 2 [] [(74,.slice A_5 low.length c_5),(75,.i (k_2:Int))] {} (TL.v (sV (Instr.indexAt 22 (.slice A_5 low.length c_5) (.i (k_2:Int)))) 76 (.pointer (some (Ix A_5 (k_2*1)))) (fun w hM=>Zy (hM.rd_at 0 rfl) (by simp) Kr sd sd) {} (Uk (Γ:=Unit) (sU (Instr.storeAt 3 (.pointer (some ((Ix A_5 (k_2*1)).add 0))) (.i 1152921504606846976))) 0 (Ow A_5 c_5 3 1 ((low.set k_2 1152921504606846976).map ic)) (X5 (n:=1) (off:=0) (.i 1152921504606846976) 0 ((low.set k_2 1152921504606846976).map ic) rfl (ZR (getD_at _ _ 0 sd)) Kr Kr Kr Kr (Qn Kr)) Kr (TL.rw 20 (.slice A_5 low.length c_5) (.slice A_5 ((low.set k_2 1152921504606846976).length) c_5) Kr (by simp only[aQ]) (Z2 rfl (Yr (Z4 (TC.region (Zc 2 [] [(71,.i (w64 ((k_2:Int)+1)))] {} (Z2 rfl (TE.rw 71 (.i (w64 ((k_2:Int)+1))) (.i ((k_2+1:Nat):Int)) Kr (ZT k_2 (by omega)) (Z7 (x:=(k_2,low)) (k_2+1,(low.set k_2 1152921504606846976)) ⟨by omega,xg.trans (by subst hr1 hr2;rw[zr];exact rfl),sl⟩ (mN zp) Kr (sb 511)))))))))))))))))))
       ·have zr:((w64 (r2+1)).toNat)-k_2=0:=by have:=of_decide_eq_false h3;first|omega|(simp at this;omega)
        refine TC.exit (Yc (Yc (Z1 ?_)))
        exact TE.cut low (⟨xg.trans (by subst hr1 hr2;rw[zr];exact rfl),sl⟩) Kr (sb 511)
      ·rintro je ⟨va,nz⟩
       refine YZ (Zc 2 [] [(79,.i (w64 (r2+1)))] {} (TL.rw 79 (.i (w64 (r2+1))) (.i (((w64 (r2+1)).toNat:Nat):Int)) Kr (int_eq (bN sd).symm) (TL.on (Γ:=AN) (sV (Instr.makeSlice 119 (.i (((w64 (r2+1)).toNat:Nat):Int)) (.i (((w64 (r2+1)).toNat:Nat):Int)))) 80 (fun g=>.slice g.1 (List.replicate ((w64 (r2+1)).toNat) false).length g.2) (fun g=>Ow g.1 g.2 4 1 ((List.replicate ((w64 (r2+1)).toNat) false).map bc)) (V0 (P:=Tryz.prog) (c:=bc) (t:=119) (e:=4) (sz:=1) (bytes:=1) false .i64 .i64 ((w64 (r2+1)).toNat) Kr Kr sd sd) {} ?_)))
       rintro⟨A_6,c_6⟩
       refine Zc 4 [] [(22,.slice A_6 ((List.replicate ((w64 (r2+1)).toNat) false).length) c_6)] {} (Zz ?_)
       obtain⟨R9,uj⟩:∃ R,Q9 qa qb from_ taken r2 k row 100 0 u v way je (List.replicate ((w64 (r2+1)).toNat) false)=some R:=TO ks_ jl hlt x9 va
       refine TC.cut (S:=Int×(List Int)×(List Int)×(List Int)×(List Int)×(List Bool)) (fun (wh,u_4,v_4,zi,ud,zb)=>[(10,.i r1),(12,.i r2),(13,.func (.func 125) #[] #[.p0 b4,.p0 b1,.p0 b2,.p0 b3]),(14,.slice A u_4.length c),(15,.slice A_2 v_4.length c_2),(16,.slice A_3 ((row.set 0 (1+(k:Int))).length) c_3),(17,.slice A_4 zi.length c_4),(18,.i (1+(k:Int))),(19,.i wh)]) (fun (wh,u_4,v_4,zi,ud,zb)=>[Ow A_3 c_3 3 1 ((row.set 0 (1+(k:Int))).map ic),Ow A_4 c_4 3 1 (zi.map ic),Ow A c 3 1 (u_4.map ic),Ow A_2 c_2 3 1 (v_4.map ic),Bk b4 #[.i (((qa.drop from_.toNat)[0]?.getD []).length:Int)] 3,Bk b3 #[.slice A1 ((qa.drop from_.toNat).length) (qe-from_.toNat)] 114,Bk b2 #[.slice A_taken taken.length zn] 119,Bk b1 #[.i qb] 3]) (fun (wh,u_4,v_4,zi,ud,zb)=>R9=(wh,u_4,v_4,zi,ud,zb)∧u_4.length=u.length∧v_4.length=v.length∧zi.length=way.length∧ud.length=je.length∧zb.length=((w64 (r2+1)).toNat)∧(Found qa qb from_ taken r1 r2 k row wh u_4 v_4 zi ud zb)) ?_ ?_
       ·refine TC.block (XB (X:=Nat×Int×(List Int)×(List Int)×(List Int)×(List Int)×(List Bool)) (fun (m,at_,u_3,v_3,ve,vf,used)=>[(10,.i r1),(12,.i r2),(13,.func (.func 125) #[] #[.p0 b4,.p0 b1,.p0 b2,.p0 b3]),(14,.slice A u_3.length c),(15,.slice A_2 v_3.length c_2),(16,.slice A_3 ((row.set 0 (1+(k:Int))).length) c_3),(17,.slice A_4 ve.length c_4),(18,.i (1+(k:Int))),(19,.i at_),(20,.slice A_5 vf.length c_5),(22,.slice A_6 used.length c_6)]) (fun (m,at_,u_3,v_3,ve,vf,used)=>[Ow A_6 c_6 4 1 (used.map bc),Ow A_5 c_5 3 1 (vf.map ic),Ow A_3 c_3 3 1 ((row.set 0 (1+(k:Int))).map ic),Ow A_4 c_4 3 1 (ve.map ic),Ow A c 3 1 (u_3.map ic),Ow A_2 c_2 3 1 (v_3.map ic),Bk b4 #[.i (((qa.drop from_.toNat)[0]?.getD []).length:Int)] 3,Bk b3 #[.slice A1 ((qa.drop from_.toNat).length) (qe-from_.toNat)] 114,Bk b2 #[.slice A_taken taken.length zn] 119,Bk b1 #[.i qb] 3]) (fun (m,at_,u_3,v_3,ve,vf,used)=>m) (fun (m,at_,u_3,v_3,ve,vf,used)=>m≤100∧Q9 qa qb from_ taken r2 k row m at_ u_3 v_3 ve vf used=some R9∧u_3.length=u.length∧v_3.length=v.length∧ve.length=way.length∧vf.length=je.length∧used.length=((w64 (r2+1)).toNat)∧(Rnd qa qb from_ taken r1 r2 k row at_ u_3 v_3 ve vf used)) ?_ (100,0,u,v,way,je,(List.replicate ((w64 (r2+1)).toNat) false)) ⟨aR _,uj,sz,sz,sz,sz,sz,(TN ks_ jl hlt x9 va)⟩ Kr (sb 1023))
        rintro⟨m,at_,u_3,v_3,ve,vf,used⟩ ⟨l5,w6,ie,ig,ma,mc,gh,yb⟩
        have ki_:=RJ ks_ jl hlt yb
        rcases m with _|m
        ·cases w6
        refine TC.block (Ze (Zc 2 [] [(81,.slice A_6 used.length c_6),(82,.i at_)] {} (TL.v (sV (Instr.indexAt 119 (.slice A_6 used.length c_6) (.i at_))) 83 (.pointer (some (Ix A_6 (at_.toNat*1)))) (fun w hM=>Zy (hM.rd_at 0 rfl) (by simp) Kr sd sd) {} (Uk (Γ:=Unit) (sU (Instr.storeAt 4 (.pointer (some ((Ix A_6 (at_.toNat*1)).add 0))) (.b true))) 0 (Ow A_6 c_6 4 1 ((used.set at_.toNat true).map bc)) (X5 (n:=1) (off:=0) (.b true) 0 ((used.set at_.toNat true).map bc) rfl (ZR (getD_at _ _ false sd)) Kr Kr Kr Kr (Qn Kr)) Kr (TL.rw 22 (.slice A_6 used.length c_6) (.slice A_6 ((used.set at_.toNat true).length) c_6) Kr (by simp only[aQ]) (Zv (Zc 2 [] [(84,.slice A_3 ((row.set 0 (1+(k:Int))).length) c_3),(85,.i at_)] {} (TL.v (sV (Instr.indexAt 22 (.slice A_3 ((row.set 0 (1+(k:Int))).length) c_3) (.i at_))) 86 (.pointer (some (Ix A_3 (at_.toNat*1)))) (fun w hM=>Zy (hM.rd_at 2 rfl) (by simp) Kr sd sd) {} (TL.v (sV (Instr.loadAt 3 (.pointer (some (Ix A_3 (at_.toNat*1)))))) 87 (.i ((row.set 0 (1+(k:Int)))[at_.toNat]?.getD 0)) (fun w hM=>Z3 (off:=0) (i:=at_.toNat) (.i ((row.set 0 (1+(k:Int)))[at_.toNat]?.getD 0)) (hM.rd_at 2 rfl) (ZR (getD_at _ _ 0 sd)) Kr Kr) {} (Zc 7 [] [(23,.i ((row.set 0 (1+(k:Int)))[at_.toNat]?.getD 0)),(24,.i 1152921504606846976),(25,.i 0)] {} (Zz (Ze (Zc 1 [] [(26,.i 1)] {} (Zb rfl ?_))))))))))))))
        obtain⟨R10,uv⟩:∃ R,R=Xd qa qb from_ taken k row at_ u_3 v_3 used r2.toNat 0 1152921504606846976 0 ve vf:=⟨_,rfl⟩
        refine TC.cut (S:=Int×Int×(List Int)×(List Int)) (fun (qy,zc,vg,vv)=>[(10,.i r1),(12,.i r2),(13,.func (.func 125) #[] #[.p0 b4,.p0 b1,.p0 b2,.p0 b3]),(14,.slice A u_3.length c),(15,.slice A_2 v_3.length c_2),(16,.slice A_3 ((row.set 0 (1+(k:Int))).length) c_3),(17,.slice A_4 vg.length c_4),(18,.i (1+(k:Int))),(20,.slice A_5 vv.length c_5),(22,.slice A_6 ((used.set at_.toNat true).length) c_6),(24,.i qy),(25,.i zc)]) (fun (qy,zc,vg,vv)=>[Ow A_6 c_6 4 1 ((used.set at_.toNat true).map bc),Ow A_5 c_5 3 1 (vv.map ic),Ow A_3 c_3 3 1 ((row.set 0 (1+(k:Int))).map ic),Ow A_4 c_4 3 1 (vg.map ic),Ow A c 3 1 (u_3.map ic),Ow A_2 c_2 3 1 (v_3.map ic),Bk b4 #[.i (((qa.drop from_.toNat)[0]?.getD []).length:Int)] 3,Bk b3 #[.slice A1 ((qa.drop from_.toNat).length) (qe-from_.toNat)] 114,Bk b2 #[.slice A_taken taken.length zn] 119,Bk b1 #[.i qb] 3]) (fun (qy,zc,vg,vv)=>R10=(qy,zc,vg,vv)∧vg.length=ve.length∧vv.length=vf.length) ?_ ?_
        ·refine TC.block (TC.rw 26 (.i 1) (.i (1+((0:Nat):Int))) Kr (int_eq (by first|omega|(rw[Zu (by omega)];omega)|(simp only[Ya];omega))) (XB (X:=Nat×Int×Int×(List Int)×(List Int)) (fun (k_3,delta,next,xj,zq)=>[(10,.i r1),(12,.i r2),(13,.func (.func 125) #[] #[.p0 b4,.p0 b1,.p0 b2,.p0 b3]),(14,.slice A u_3.length c),(15,.slice A_2 v_3.length c_2),(16,.slice A_3 ((row.set 0 (1+(k:Int))).length) c_3),(17,.slice A_4 xj.length c_4),(18,.i (1+(k:Int))),(19,.i at_),(20,.slice A_5 zq.length c_5),(22,.slice A_6 ((used.set at_.toNat true).length) c_6),(23,.i ((row.set 0 (1+(k:Int)))[at_.toNat]?.getD 0)),(24,.i delta),(25,.i next),(26,.i (1+(k_3:Int)))]) (fun (k_3,delta,next,xj,zq)=>[Ow A_6 c_6 4 1 ((used.set at_.toNat true).map bc),Ow A_5 c_5 3 1 (zq.map ic),Ow A_3 c_3 3 1 ((row.set 0 (1+(k:Int))).map ic),Ow A_4 c_4 3 1 (xj.map ic),Ow A c 3 1 (u_3.map ic),Ow A_2 c_2 3 1 (v_3.map ic),Bk b4 #[.i (((qa.drop from_.toNat)[0]?.getD []).length:Int)] 3,Bk b3 #[.slice A1 ((qa.drop from_.toNat).length) (qe-from_.toNat)] 114,Bk b2 #[.slice A_taken taken.length zn] 119,Bk b1 #[.i qb] 3]) (fun (k_3,delta,next,xj,zq)=>r2.toNat-k_3) (fun (k_3,delta,next,xj,zq)=>k_3≤r2.toNat∧R10=Xd qa qb from_ taken k row at_ u_3 v_3 used (r2.toNat-k_3) k_3 delta next xj zq∧xj.length=ve.length∧zq.length=vf.length) ?_ (0,1152921504606846976,0,ve,vf) ⟨aN _,uv,sz,sz⟩ Kr (sb 1023)))
         rintro⟨k_3,delta,next,xj,zq⟩ ⟨ik,p9,me,mf⟩
         refine TC.seq (Ze (Zc 3 [] [(90,.b (decide ((1+(k_3:Int))≤r2)))] {} (Zb rfl (TC.cond (decide ((1+(k_3:Int))≤r2)) rfl Kr (fun h4=>?_) (fun h4=>?_)))))
         ·have ue:k_3<r2.toNat:=by have p0_:=(Ys h4);first|omega|(simp only[Ya] at *;omega)
          have uw:r2.toNat-k_3=(r2.toNat-(k_3+1))+1:=by omega
          have yl:=(Ys h4)
          refine Yg (TC.seq (TC.block (TC.seq (Ze (Zc 2 [] [(93,.slice A_6 ((used.set at_.toNat true).length) c_6),(94,.i (1+(k_3:Int)))] {} (TL.v (sV (Instr.indexAt 119 (.slice A_6 ((used.set at_.toNat true).length) c_6) (.i (1+(k_3:Int))))) 95 (.pointer (some ((A_6.getD Y4).add ((1+(k_3:Int)).toNat*1)))) (fun w hM=>Zy (hM.rd_at 0 rfl) (by simp) Kr sd sd) {} (TL.v (sV (Instr.loadAt 4 (.pointer (some ((A_6.getD Y4).add ((1+(k_3:Int)).toNat*1)))))) 96 (.b (((used.set at_.toNat true)[(1+(k_3:Int)).toNat]?.getD false))) (fun w hM=>Z3 (off:=0) (i:=(1+(k_3:Int)).toNat) (.b (((used.set at_.toNat true)[(1+(k_3:Int)).toNat]?.getD false))) (hM.rd_at 0 rfl) (ZR (getD_at _ _ false sd)) Kr Kr) {} (Zb rfl (TC.cond (((used.set at_.toNat true)[(1+(k_3:Int)).toNat]?.getD false)) rfl Kr (fun h5=>?_) (fun h5=>?_))))))))))
          ·refine TC.exit (Yc (Z1 ?_))
           exact Z4 (TC.region (Zc 3 [] [(26,.i (w64 ((1+(k_3:Int))+1)))] {} (Z2 rfl (TE.rw 26 (.i (w64 ((1+(k_3:Int))+1))) (.i (1+((k_3+1:Nat):Int))) Kr (int_eq (by first|omega|(rw[Zu (by omega)];omega)|(simp only[Ya] at *;omega))) (Z7 (x:=(k_3,delta,next,xj,zq)) (k_3+1,delta,next,xj,zq) ⟨by omega,p9.trans (by subst hr1 hr2;rw[uw];exact Zk h5 (rfl)),sl,sl⟩ (mN ue) Kr (sb 1023))))))
          ·refine Yg (TC.seq (TC.seq (UA 17 Kr Kr Kr (JA 5 [] [(97,.func (.func 125) #[] #[.p0 b4,.p0 b1,.p0 b2,.p0 b3]),(99,.i (w64 (((row.set 0 (1+(k:Int)))[at_.toNat]?.getD 0)-1))),(101,.i (w64 ((1+(k_3:Int))-1)))] {} (TQ.c 102 (YT (w64 (((row.set 0 (1+(k:Int)))[at_.toNat]?.getD 0)-1)) (w64 ((1+(k_3:Int))-1)) (((qa.drop from_.toNat)[0]?.getD []).length:Int) qb taken (qa.drop from_.toNat)) (fun r3=>.i r3) (fun w hM=>UP (w64 (((row.set 0 (1+(k:Int)))[at_.toNat]?.getD 0)-1)) (w64 ((1+(k_3:Int))-1)) ⟨b4,0,none⟩ (((qa.drop from_.toNat)[0]?.getD []).length:Int) ⟨b1,0,none⟩ qb ⟨b2,0,none⟩ A_taken zn taken ⟨b3,0,none⟩ A1 (qe-from_.toNat) (qa.drop from_.toNat) (qf.drop from_.toNat) w (Rd.lit hM 6 _ rfl Kr Kr Kr) (Rd.lit hM 9 _ rfl Kr Kr Kr) (Rd.lit hM 8 _ rfl Kr Kr Kr) ⟨(uu.sat hM),pn⟩ (Rd.lit hM 7 _ rfl Kr Kr Kr) (hR1.sat hM) hC1 (fun s hs=>((FX zg from_.toNat) s hs).sat hM) (GT qm from_.toNat) (by first|exact Gl ks_ htk (RJ ks_ jl hlt yb).2 (by have:=(Ys h4);omega)|exact Gl ks_ htk (by have q_:=NK ks_ ky (j:=(1+(k_5:Int)).toNat) (by have:=(Ys h12);have:=ks_.facts;omega);have:=(Ys h13);omega) (by have:=(Ys h12);omega))) rfl {} (fun r3 hr3=>JA 8 [] [(103,.slice A u_3.length c),(104,.i ((row.set 0 (1+(k:Int)))[at_.toNat]?.getD 0))] {} (TQ.v (sV (Instr.indexAt 22 (.slice A u_3.length c) (.i ((row.set 0 (1+(k:Int)))[at_.toNat]?.getD 0)))) 105 (.pointer (some ((A.getD Y4).add (((row.set 0 (1+(k:Int)))[at_.toNat]?.getD 0).toNat*1)))) (fun w hM=>Zy (hM.rd_at 4 rfl) (by simp) Kr sd sd) rfl {} (TQ.v (sV (Instr.loadAt 3 (.pointer (some ((A.getD Y4).add (((row.set 0 (1+(k:Int)))[at_.toNat]?.getD 0).toNat*1)))))) 106 (.i (u_3[((row.set 0 (1+(k:Int)))[at_.toNat]?.getD 0).toNat]?.getD 0)) (fun w hM=>Z3 (off:=0) (i:=((row.set 0 (1+(k:Int)))[at_.toNat]?.getD 0).toNat) (.i (u_3[((row.set 0 (1+(k:Int)))[at_.toNat]?.getD 0).toNat]?.getD 0)) (hM.rd_at 4 rfl) (ZR (getD_at _ _ 0 sd)) Kr Kr) rfl {} (JA 13 [] [(107,.i (w64 (r3-(u_3[((row.set 0 (1+(k:Int)))[at_.toNat]?.getD 0).toNat]?.getD 0)))),(108,.slice A_2 v_3.length c_2),(109,.i (1+(k_3:Int)))] {} (TQ.v (sV (Instr.indexAt 22 (.slice A_2 v_3.length c_2) (.i (1+(k_3:Int))))) 110 (.pointer (some ((A_2.getD Y4).add ((1+(k_3:Int)).toNat*1)))) (fun w hM=>Zy (hM.rd_at 5 rfl) (by simp) Kr sd sd) rfl {} (TQ.v (sV (Instr.loadAt 3 (.pointer (some ((A_2.getD Y4).add ((1+(k_3:Int)).toNat*1)))))) 111 (.i (v_3[(1+(k_3:Int)).toNat]?.getD 0)) (fun w hM=>Z3 (off:=0) (i:=(1+(k_3:Int)).toNat) (.i (v_3[(1+(k_3:Int)).toNat]?.getD 0)) (hM.rd_at 5 rfl) (ZR (getD_at _ _ 0 sd)) Kr Kr) rfl {} (JA 17 [] [(27,.i (w64 ((w64 (r3-(u_3[((row.set 0 (1+(k:Int)))[at_.toNat]?.getD 0).toNat]?.getD 0)))-(v_3[(1+(k_3:Int)).toNat]?.getD 0))))] {} (VT rfl (Ze (Zc 3 [] [(113,.i (w64 ((w64 (r3-(u_3[((row.set 0 (1+(k:Int)))[at_.toNat]?.getD 0).toNat]?.getD 0)))-(v_3[(1+(k_3:Int)).toNat]?.getD 0)))),(114,.slice A_5 zq.length c_5),(115,.i (1+(k_3:Int)))] {} (TL.v (sV (Instr.indexAt 22 (.slice A_5 zq.length c_5) (.i (1+(k_3:Int))))) 116 (.pointer (some ((A_5.getD Y4).add ((1+(k_3:Int)).toNat*1)))) (fun w hM=>Zy (hM.rd_at 1 rfl) (by simp) Kr sd sd) {} (TL.v (sV (Instr.loadAt 3 (.pointer (some ((A_5.getD Y4).add ((1+(k_3:Int)).toNat*1)))))) 117 (.i (zq[(1+(k_3:Int)).toNat]?.getD 0)) (fun w hM=>Z3 (off:=0) (i:=(1+(k_3:Int)).toNat) (.i (zq[(1+(k_3:Int)).toNat]?.getD 0)) (hM.rd_at 1 rfl) (ZR (getD_at _ _ 0 sd)) Kr Kr) {} (Zc 6 [] [(118,.b (decide ((w64 ((w64 (r3-(u_3[((row.set 0 (1+(k:Int)))[at_.toNat]?.getD 0).toNat]?.getD 0)))-(v_3[(1+(k_3:Int)).toNat]?.getD 0)))<(zq[(1+(k_3:Int)).toNat]?.getD 0))))] {} (Zb rfl ?_)))))))))))))))))))
           refine TC.cut (S:=(List Int)×(List Int)) (fun (ko,x7)=>[(10,.i r1),(12,.i r2),(13,.func (.func 125) #[] #[.p0 b4,.p0 b1,.p0 b2,.p0 b3]),(14,.slice A u_3.length c),(15,.slice A_2 v_3.length c_2),(16,.slice A_3 ((row.set 0 (1+(k:Int))).length) c_3),(17,.slice A_4 ko.length c_4),(18,.i (1+(k:Int))),(19,.i at_),(20,.slice A_5 x7.length c_5),(22,.slice A_6 ((used.set at_.toNat true).length) c_6),(23,.i ((row.set 0 (1+(k:Int)))[at_.toNat]?.getD 0)),(24,.i delta),(25,.i next),(26,.i (1+(k_3:Int)))]) (fun (ko,x7)=>[Ow A_6 c_6 4 1 ((used.set at_.toNat true).map bc),Ow A_5 c_5 3 1 (x7.map ic),Ow A_3 c_3 3 1 ((row.set 0 (1+(k:Int))).map ic),Ow A_4 c_4 3 1 (ko.map ic),Ow A c 3 1 (u_3.map ic),Ow A_2 c_2 3 1 (v_3.map ic),Bk b4 #[.i (((qa.drop from_.toNat)[0]?.getD []).length:Int)] 3,Bk b3 #[.slice A1 ((qa.drop from_.toNat).length) (qe-from_.toNat)] 114,Bk b2 #[.slice A_taken taken.length zn] 119,Bk b1 #[.i qb] 3]) (fun (ko,x7)=>(cond (decide ((w64 ((w64 (r3-(u_3[((row.set 0 (1+(k:Int)))[at_.toNat]?.getD 0).toNat]?.getD 0)))-(v_3[(1+(k_3:Int)).toNat]?.getD 0)))<(zq[(1+(k_3:Int)).toNat]?.getD 0))) (
            ((xj.set ((1+(k_3:Int)).toNat) at_),(zq.set ((1+(k_3:Int)).toNat) (w64 ((w64 (r3-(u_3[((row.set 0 (1+(k:Int)))[at_.toNat]?.getD 0).toNat]?.getD 0)))-(v_3[(1+(k_3:Int)).toNat]?.getD 0)))))) (
            (xj,zq)))=(ko,x7)∧(ko.length=xj.length)∧(x7.length=zq.length)) ?_ ?_
           ·refine TC.cond (decide ((w64 ((w64 (r3-(u_3[((row.set 0 (1+(k:Int)))[at_.toNat]?.getD 0).toNat]?.getD 0)))-(v_3[(1+(k_3:Int)).toNat]?.getD 0)))<(zq[(1+(k_3:Int)).toNat]?.getD 0))) rfl Kr (fun h6=>?_) (fun h6=>?_)
            ·have yv:=(Ys h6)
             exact TC.region (Zc 6 [] [(119,.slice A_5 zq.length c_5),(120,.i (1+(k_3:Int))),(121,.slice A_4 xj.length c_4),(122,.i (1+(k_3:Int))),(123,.i (w64 ((w64 (r3-(u_3[((row.set 0 (1+(k:Int)))[at_.toNat]?.getD 0).toNat]?.getD 0)))-(v_3[(1+(k_3:Int)).toNat]?.getD 0)))),(124,.i at_)] {} (TL.v (sV (Instr.indexAt 22 (.slice A_5 zq.length c_5) (.i (1+(k_3:Int))))) 125 (.pointer (some ((A_5.getD Y4).add ((1+(k_3:Int)).toNat*1)))) (fun w hM=>Zy (hM.rd_at 1 rfl) (by simp) Kr sd sd) {} (Uk (Γ:=Unit) (sU (Instr.storeAt 3 (.pointer (some (((A_5.getD Y4).add ((1+(k_3:Int)).toNat*1)).add 0))) (.i (w64 ((w64 (r3-(u_3[((row.set 0 (1+(k:Int)))[at_.toNat]?.getD 0).toNat]?.getD 0)))-(v_3[(1+(k_3:Int)).toNat]?.getD 0)))))) 1 (Ow A_5 c_5 3 1 ((zq.set ((1+(k_3:Int)).toNat) (w64 ((w64 (r3-(u_3[((row.set 0 (1+(k:Int)))[at_.toNat]?.getD 0).toNat]?.getD 0)))-(v_3[(1+(k_3:Int)).toNat]?.getD 0)))).map ic)) (X5 (n:=1) (off:=0) (.i (w64 ((w64 (r3-(u_3[((row.set 0 (1+(k:Int)))[at_.toNat]?.getD 0).toNat]?.getD 0)))-(v_3[(1+(k_3:Int)).toNat]?.getD 0)))) 1 ((zq.set ((1+(k_3:Int)).toNat) (w64 ((w64 (r3-(u_3[((row.set 0 (1+(k:Int)))[at_.toNat]?.getD 0).toNat]?.getD 0)))-(v_3[(1+(k_3:Int)).toNat]?.getD 0)))).map ic) rfl (ZR (getD_at _ _ 0 sd)) Kr Kr Kr Kr (Qn Kr)) Kr (TL.rw 20 (.slice A_5 zq.length c_5) (.slice A_5 ((zq.set ((1+(k_3:Int)).toNat) (w64 ((w64 (r3-(u_3[((row.set 0 (1+(k:Int)))[at_.toNat]?.getD 0).toNat]?.getD 0)))-(v_3[(1+(k_3:Int)).toNat]?.getD 0)))).length) c_5) Kr (by simp only[aQ]) (TL.v (sV (Instr.indexAt 22 (.slice A_4 xj.length c_4) (.i (1+(k_3:Int))))) 126 (.pointer (some ((A_4.getD Y4).add ((1+(k_3:Int)).toNat*1)))) (fun w hM=>Zy (hM.rd_at 3 rfl) (by simp) Kr sd sd) {} (Uk (Γ:=Unit) (sU (Instr.storeAt 3 (.pointer (some (((A_4.getD Y4).add ((1+(k_3:Int)).toNat*1)).add 0))) (.i at_))) 3 (Ow A_4 c_4 3 1 ((xj.set ((1+(k_3:Int)).toNat) at_).map ic)) (X5 (n:=1) (off:=0) (.i at_) 3 ((xj.set ((1+(k_3:Int)).toNat) at_).map ic) rfl (ZR (getD_at _ _ 0 sd)) Kr Kr Kr Kr (Qn Kr)) Kr (TL.rw 17 (.slice A_4 xj.length c_4) (.slice A_4 ((xj.set ((1+(k_3:Int)).toNat) at_).length) c_4) Kr (by simp only[aQ]) (Z2 rfl (TE.cut ((xj.set ((1+(k_3:Int)).toNat) at_),(zq.set ((1+(k_3:Int)).toNat) (w64 ((w64 (r3-(u_3[((row.set 0 (1+(k:Int)))[at_.toNat]?.getD 0).toNat]?.getD 0)))-(v_3[(1+(k_3:Int)).toNat]?.getD 0))))) ⟨(by subst hr1 hr2 hr3;exact Zk h6 (rfl)),(by simp),(by simp)⟩ Kr (sb 1023))))))))))
            ·have yv:=(Zt h6)
             exact TC.skip (TE.cut (xj,zq) ⟨(by subst hr1 hr2 hr3;exact Zd h6 (rfl)),(by simp),(by simp)⟩ Kr (sb 1023))
           ·rintro⟨ko,x7⟩ ⟨dt,ti,tj⟩
            refine YZ (Zc 2 [] [(127,.slice A_5 x7.length c_5),(128,.i (1+(k_3:Int)))] {} (TL.v (sV (Instr.indexAt 22 (.slice A_5 x7.length c_5) (.i (1+(k_3:Int))))) 129 (.pointer (some ((A_5.getD Y4).add ((1+(k_3:Int)).toNat*1)))) (fun w hM=>Zy (hM.rd_at 1 rfl) (by simp) Kr sd sd) {} (TL.v (sV (Instr.loadAt 3 (.pointer (some ((A_5.getD Y4).add ((1+(k_3:Int)).toNat*1)))))) 130 (.i (x7[(1+(k_3:Int)).toNat]?.getD 0)) (fun w hM=>Z3 (off:=0) (i:=(1+(k_3:Int)).toNat) (.i (x7[(1+(k_3:Int)).toNat]?.getD 0)) (hM.rd_at 1 rfl) (ZR (getD_at _ _ 0 sd)) Kr Kr) {} (Zc 6 [] [(132,.b (decide ((x7[(1+(k_3:Int)).toNat]?.getD 0)<delta)))] {} (Zb rfl (TC.cond (decide ((x7[(1+(k_3:Int)).toNat]?.getD 0)<delta)) rfl Kr (fun h7=>?_) (fun h7=>?_)))))))
            ·have ym:=(Ys h7)
             exact TC.region (Zc 2 [] [(133,.slice A_5 x7.length c_5),(134,.i (1+(k_3:Int)))] {} (TL.v (sV (Instr.indexAt 22 (.slice A_5 x7.length c_5) (.i (1+(k_3:Int))))) 135 (.pointer (some ((A_5.getD Y4).add ((1+(k_3:Int)).toNat*1)))) (fun w hM=>Zy (hM.rd_at 1 rfl) (by simp) Kr sd sd) {} (TL.v (sV (Instr.loadAt 3 (.pointer (some ((A_5.getD Y4).add ((1+(k_3:Int)).toNat*1)))))) 136 (.i (x7[(1+(k_3:Int)).toNat]?.getD 0)) (fun w hM=>Z3 (off:=0) (i:=(1+(k_3:Int)).toNat) (.i (x7[(1+(k_3:Int)).toNat]?.getD 0)) (hM.rd_at 1 rfl) (ZR (getD_at _ _ 0 sd)) Kr Kr) {} (Zc 7 [] [(24,.i (x7[(1+(k_3:Int)).toNat]?.getD 0)),(25,.i (1+(k_3:Int)))] {} (Z2 rfl (Yr (Z4 (TC.region (Zc 3 [] [(26,.i (w64 ((1+(k_3:Int))+1)))] {} (Z2 rfl (TE.rw 26 (.i (w64 ((1+(k_3:Int))+1))) (.i (1+((k_3+1:Nat):Int))) Kr (int_eq (by first|omega|(rw[Zu (by omega)];omega)|(simp only[Ya] at *;omega))) (Z7 (x:=(k_3,delta,next,xj,zq)) (k_3+1,(x7[(1+(k_3:Int)).toNat]?.getD 0),(1+(k_3:Int)),ko,x7) ⟨by omega,p9.trans (by subst hr1 hr2 hr3;rw[uw];exact Zd h5 (Y5 (dt) (Zk h7 (rfl)))),sl,sl⟩ (mN ue) Kr (sb 1023)))))))))))))
            ·have ym:=(Zt h7)
             exact TC.skip (Yr (Z4 (TC.region (Zc 3 [] [(26,.i (w64 ((1+(k_3:Int))+1)))] {} (Z2 rfl (TE.rw 26 (.i (w64 ((1+(k_3:Int))+1))) (.i (1+((k_3+1:Nat):Int))) Kr (int_eq (by first|omega|(rw[Zu (by omega)];omega)|(simp only[Ya] at *;omega))) (Z7 (x:=(k_3,delta,next,xj,zq)) (k_3+1,delta,next,ko,x7) ⟨by omega,p9.trans (by subst hr1 hr2 hr3;rw[uw];exact Zd h5 (Y5 (dt) (Zd h7 (rfl)))),sl,sl⟩ (mN ue) Kr (sb 1023))))))))
         ·have uw:r2.toNat-k_3=0:=by have p0_:=(Zt h4);first|omega|(simp only[Ya] at *;omega)
          refine TC.exit (Yc (Yc (Z1 ?_)))
          exact TE.cut (delta,next,xj,zq) (⟨p9.trans (by subst hr1 hr2;rw[uw];exact rfl),sl,sl⟩) Kr (sb 1023)
        ·rintro⟨qy,zc,vg,vv⟩ ⟨ux,mg,mh⟩
         have kn_:=E3 ks_ jl hlt yb uv ux
         refine Z4 (TC.seq (Ze (Zc 3 [] [(139,.i ((used.set at_.toNat true).length:Int)),(140,.i 0)] {} (Zb rfl ?_))))
         obtain⟨R11,fv⟩:∃ R,R=X9 k row qy (used.set at_.toNat true) 0 u_3 v_3 vv:=⟨_,rfl⟩
         refine TC.cut (S:=(List Int)×(List Int)×(List Int)) (fun (u_6,v_6,kp)=>[(10,.i r1),(12,.i r2),(13,.func (.func 125) #[] #[.p0 b4,.p0 b1,.p0 b2,.p0 b3]),(14,.slice A u_6.length c),(15,.slice A_2 v_6.length c_2),(16,.slice A_3 ((row.set 0 (1+(k:Int))).length) c_3),(17,.slice A_4 vg.length c_4),(18,.i (1+(k:Int))),(20,.slice A_5 kp.length c_5),(22,.slice A_6 ((used.set at_.toNat true).length) c_6),(25,.i zc)]) (fun (u_6,v_6,kp)=>[Ow A_6 c_6 4 1 ((used.set at_.toNat true).map bc),Ow A_5 c_5 3 1 (kp.map ic),Ow A_3 c_3 3 1 ((row.set 0 (1+(k:Int))).map ic),Ow A_4 c_4 3 1 (vg.map ic),Ow A c 3 1 (u_6.map ic),Ow A_2 c_2 3 1 (v_6.map ic),Bk b4 #[.i (((qa.drop from_.toNat)[0]?.getD []).length:Int)] 3,Bk b3 #[.slice A1 ((qa.drop from_.toNat).length) (qe-from_.toNat)] 114,Bk b2 #[.slice A_taken taken.length zn] 119,Bk b1 #[.i qb] 3]) (fun (u_6,v_6,kp)=>R11=(u_6,v_6,kp)∧u_6.length=u_3.length∧v_6.length=v_3.length∧kp.length=vv.length) ?_ ?_
         ·refine TC.block (XB (X:=Nat×(List Int)×(List Int)×(List Int)) (fun (k_4,u_5,v_5,zt)=>[(10,.i r1),(12,.i r2),(13,.func (.func 125) #[] #[.p0 b4,.p0 b1,.p0 b2,.p0 b3]),(14,.slice A u_5.length c),(15,.slice A_2 v_5.length c_2),(16,.slice A_3 ((row.set 0 (1+(k:Int))).length) c_3),(17,.slice A_4 vg.length c_4),(18,.i (1+(k:Int))),(20,.slice A_5 zt.length c_5),(22,.slice A_6 ((used.set at_.toNat true).length) c_6),(24,.i qy),(25,.i zc),(139,.i ((used.set at_.toNat true).length:Int)),(140,.i (k_4:Int))]) (fun (k_4,u_5,v_5,zt)=>[Ow A_6 c_6 4 1 ((used.set at_.toNat true).map bc),Ow A_5 c_5 3 1 (zt.map ic),Ow A_3 c_3 3 1 ((row.set 0 (1+(k:Int))).map ic),Ow A_4 c_4 3 1 (vg.map ic),Ow A c 3 1 (u_5.map ic),Ow A_2 c_2 3 1 (v_5.map ic),Bk b4 #[.i (((qa.drop from_.toNat)[0]?.getD []).length:Int)] 3,Bk b3 #[.slice A1 ((qa.drop from_.toNat).length) (qe-from_.toNat)] 114,Bk b2 #[.slice A_taken taken.length zn] 119,Bk b1 #[.i qb] 3]) (fun (k_4,u_5,v_5,zt)=>(used.set at_.toNat true).length-k_4) (fun (k_4,u_5,v_5,zt)=>k_4≤(used.set at_.toNat true).length∧R11=X9 k row qy ((used.set at_.toNat true).drop k_4) k_4 u_5 v_5 zt∧u_5.length=u_3.length∧v_5.length=v_3.length∧zt.length=vv.length) ?_ (0,u_3,v_3,vv) ⟨aN _,fv,sz,sz,sz⟩ Kr (sb 1023))
          rintro⟨k_4,u_5,v_5,zt⟩ ⟨ou,ri,il,im,ml⟩
          refine Ze (Zc 1 [] [(141,.b (decide ((k_4:Int)<((used.set at_.toNat true).length:Int))))] {} (Zz (TC.cond (decide ((k_4:Int)<((used.set at_.toNat true).length:Int))) rfl Kr (fun h8=>?_) (fun h8=>?_))))
          ·have gi:=ltN h8
           obtain⟨x,mm⟩:=elN gi
           have ku_:=E4 ks_ gi gh;have kr_:=row_in ks_ jl hlt ku_;have i1_:k_4<(row.set 0 (1+(k:Int))).length:=by rw[aQ];omega
           have i2_:((row.set 0 (1+(k:Int)))[k_4]?.getD 0).toNat<u_5.length:=by omega
           have i3_:k_4<v_5.length:=by omega
           have i4_:k_4<zt.length:=by omega
           have du:=drop_at mm
           refine Yg (TC.seq (TC.block (Ze (Zc 2 [] [(28,.i (k_4:Int))] {} (Zv (Zc 2 [] [(143,.slice A_6 ((used.set at_.toNat true).length) c_6),(144,.i (k_4:Int))] {} (TL.v (sV (Instr.indexAt 119 (.slice A_6 ((used.set at_.toNat true).length) c_6) (.i (k_4:Int)))) 145 (.pointer (some (Ix A_6 (k_4*1)))) (fun w hM=>Zy (hM.rd_at 0 rfl) (by simp) Kr sd sd) {} (TL.v (sV (Instr.loadAt 4 (.pointer (some (Ix A_6 (k_4*1)))))) 146 (.b x) (fun w hM=>Z3 (off:=0) (i:=k_4) (.b x) (hM.rd_at 0 rfl) (ZR mm) Kr Kr) {} (Zb rfl (TC.cond x rfl Kr (fun h9=>?_) (fun h9=>?_)))))))))))
           ·exact Ze (Zc 3 [] [(147,.slice A u_5.length c),(148,.slice A_3 ((row.set 0 (1+(k:Int))).length) c_3),(149,.i (k_4:Int))] {} (TL.v (sV (Instr.indexAt 22 (.slice A_3 ((row.set 0 (1+(k:Int))).length) c_3) (.i (k_4:Int)))) 150 (.pointer (some (Ix A_3 (k_4*1)))) (fun w hM=>Zy (hM.rd_at 2 rfl) (by simp) Kr (by first|exact i1_|exact aO _|exact cC.2 i1_) (by first|exact i1_|exact aO _|exact cC.2 i1_)) {} (TL.v (sV (Instr.loadAt 3 (.pointer (some (Ix A_3 (k_4*1)))))) 151 (.i ((row.set 0 (1+(k:Int)))[k_4]?.getD 0)) (fun w hM=>Z3 (off:=0) (i:=k_4) (.i ((row.set 0 (1+(k:Int)))[k_4]?.getD 0)) (hM.rd_at 2 rfl) (ZR (getD_at _ _ 0 (by first|exact i1_|exact aO _|exact cC.2 i1_))) Kr Kr) {} (TL.v (sV (Instr.indexAt 22 (.slice A u_5.length c) (.i ((row.set 0 (1+(k:Int)))[k_4]?.getD 0)))) 152 (.pointer (some ((A.getD Y4).add (((row.set 0 (1+(k:Int)))[k_4]?.getD 0).toNat*1)))) (fun w hM=>Zy (hM.rd_at 4 rfl) (by simp) Kr (by first|exact i2_|exact kr_.1|(have z_:=kr_.1;have z2_:=i2_;omega)) (by first|exact i2_|exact kr_.1|(have z_:=kr_.1;have z2_:=i2_;omega))) {} (TL.v (sV (Instr.loadAt 3 (.pointer (some ((A.getD Y4).add (((row.set 0 (1+(k:Int)))[k_4]?.getD 0).toNat*1)))))) 153 (.i (u_5[((row.set 0 (1+(k:Int)))[k_4]?.getD 0).toNat]?.getD 0)) (fun w hM=>Z3 (off:=0) (i:=((row.set 0 (1+(k:Int)))[k_4]?.getD 0).toNat) (.i (u_5[((row.set 0 (1+(k:Int)))[k_4]?.getD 0).toNat]?.getD 0)) (hM.rd_at 4 rfl) (ZR (getD_at _ _ 0 (by first|exact i2_|exact kr_.1|(have z_:=kr_.1;have z2_:=i2_;omega)))) Kr Kr) {} (Zc 9 [] [(155,.i (w64 ((u_5[((row.set 0 (1+(k:Int)))[k_4]?.getD 0).toNat]?.getD 0)+qy)))] {} (TL.v (sV (Instr.indexAt 22 (.slice A u_5.length c) (.i ((row.set 0 (1+(k:Int)))[k_4]?.getD 0)))) 156 (.pointer (some ((A.getD Y4).add (((row.set 0 (1+(k:Int)))[k_4]?.getD 0).toNat*1)))) (fun w hM=>Zy (hM.rd_at 4 rfl) (by simp) Kr (by first|exact i2_|exact kr_.1|(have z_:=kr_.1;have z2_:=i2_;omega)) (by first|exact i2_|exact kr_.1|(have z_:=kr_.1;have z2_:=i2_;omega))) {} (Uk (Γ:=Unit) (sU (Instr.storeAt 3 (.pointer (some (((A.getD Y4).add (((row.set 0 (1+(k:Int)))[k_4]?.getD 0).toNat*1)).add 0))) (.i (w64 ((u_5[((row.set 0 (1+(k:Int)))[k_4]?.getD 0).toNat]?.getD 0)+qy))))) 4 (Ow A c 3 1 ((u_5.set (((row.set 0 (1+(k:Int)))[k_4]?.getD 0).toNat) (w64 ((u_5[((row.set 0 (1+(k:Int)))[k_4]?.getD 0).toNat]?.getD 0)+qy))).map ic)) (X5 (n:=1) (off:=0) (.i (w64 ((u_5[((row.set 0 (1+(k:Int)))[k_4]?.getD 0).toNat]?.getD 0)+qy))) 4 ((u_5.set (((row.set 0 (1+(k:Int)))[k_4]?.getD 0).toNat) (w64 ((u_5[((row.set 0 (1+(k:Int)))[k_4]?.getD 0).toNat]?.getD 0)+qy))).map ic) rfl (ZR (getD_at _ _ 0 (by first|exact i2_|exact kr_.1|(have z_:=kr_.1;have z2_:=i2_;omega)))) Kr Kr Kr Kr (Qn Kr)) Kr (TL.rw 14 (.slice A u_5.length c) (.slice A ((u_5.set (((row.set 0 (1+(k:Int)))[k_4]?.getD 0).toNat) (w64 ((u_5[((row.set 0 (1+(k:Int)))[k_4]?.getD 0).toNat]?.getD 0)+qy))).length) c) Kr (by simp only[aQ]) (Zb rfl (TC.region (Zc 2 [] [(157,.slice A_2 v_5.length c_2),(158,.i (k_4:Int))] {} (TL.v (sV (Instr.indexAt 22 (.slice A_2 v_5.length c_2) (.i (k_4:Int)))) 159 (.pointer (some (Ix A_2 (k_4*1)))) (fun w hM=>Zy (hM.rd_at 5 rfl) (by simp) Kr (by first|exact i3_|exact aO _|exact cC.2 i3_) (by first|exact i3_|exact aO _|exact cC.2 i3_)) {} (TL.v (sV (Instr.loadAt 3 (.pointer (some (Ix A_2 (k_4*1)))))) 160 (.i (v_5[k_4]?.getD 0)) (fun w hM=>Z3 (off:=0) (i:=k_4) (.i (v_5[k_4]?.getD 0)) (hM.rd_at 5 rfl) (ZR (getD_at _ _ 0 (by first|exact i3_|exact aO _|exact cC.2 i3_))) Kr Kr) {} (Zc 6 [] [(162,.i (w64 ((v_5[k_4]?.getD 0)-qy)))] {} (TL.v (sV (Instr.indexAt 22 (.slice A_2 v_5.length c_2) (.i (k_4:Int)))) 163 (.pointer (some (Ix A_2 (k_4*1)))) (fun w hM=>Zy (hM.rd_at 5 rfl) (by simp) Kr (by first|exact i3_|exact aO _|exact cC.2 i3_) (by first|exact i3_|exact aO _|exact cC.2 i3_)) {} (Uk (Γ:=Unit) (sU (Instr.storeAt 3 (.pointer (some ((Ix A_2 (k_4*1)).add 0))) (.i (w64 ((v_5[k_4]?.getD 0)-qy))))) 5 (Ow A_2 c_2 3 1 ((v_5.set k_4 (w64 ((v_5[k_4]?.getD 0)-qy))).map ic)) (X5 (n:=1) (off:=0) (.i (w64 ((v_5[k_4]?.getD 0)-qy))) 5 ((v_5.set k_4 (w64 ((v_5[k_4]?.getD 0)-qy))).map ic) rfl (ZR (getD_at _ _ 0 (by first|exact i3_|exact aO _|exact cC.2 i3_))) Kr Kr Kr Kr (Qn Kr)) Kr (TL.rw 15 (.slice A_2 v_5.length c_2) (.slice A_2 ((v_5.set k_4 (w64 ((v_5[k_4]?.getD 0)-qy))).length) c_2) Kr (by simp only[aQ]) (Z2 rfl (Yr (Z4 (TC.region (Zc 2 [] [(140,.i (w64 ((k_4:Int)+1)))] {} (Z2 rfl (TE.rw 140 (.i (w64 ((k_4:Int)+1))) (.i ((k_4+1:Nat):Int)) Kr (ZT k_4 (by omega)) (Z7 (x:=(k_4,u_5,v_5,zt)) (k_4+1,(u_5.set (((row.set 0 (1+(k:Int)))[k_4]?.getD 0).toNat) (w64 ((u_5[((row.set 0 (1+(k:Int)))[k_4]?.getD 0).toNat]?.getD 0)+qy))),(v_5.set k_4 (w64 ((v_5[k_4]?.getD 0)-qy))),zt) ⟨by omega,ri.trans (by subst hr1 hr2;rw[du];exact Zk h9 (rfl)),sl,sl,sl⟩ (mN gi) Kr (sb 1023)))))))))))))))))))))))))))
           ·exact TC.region (Zc 2 [] [(164,.slice A_5 zt.length c_5),(165,.i (k_4:Int))] {} (TL.v (sV (Instr.indexAt 22 (.slice A_5 zt.length c_5) (.i (k_4:Int)))) 166 (.pointer (some (Ix A_5 (k_4*1)))) (fun w hM=>Zy (hM.rd_at 1 rfl) (by simp) Kr (by first|exact i4_|exact aO _|exact cC.2 i4_) (by first|exact i4_|exact aO _|exact cC.2 i4_)) {} (TL.v (sV (Instr.loadAt 3 (.pointer (some (Ix A_5 (k_4*1)))))) 167 (.i (zt[k_4]?.getD 0)) (fun w hM=>Z3 (off:=0) (i:=k_4) (.i (zt[k_4]?.getD 0)) (hM.rd_at 1 rfl) (ZR (getD_at _ _ 0 (by first|exact i4_|exact aO _|exact cC.2 i4_))) Kr Kr) {} (Zc 6 [] [(169,.i (w64 ((zt[k_4]?.getD 0)-qy)))] {} (TL.v (sV (Instr.indexAt 22 (.slice A_5 zt.length c_5) (.i (k_4:Int)))) 170 (.pointer (some (Ix A_5 (k_4*1)))) (fun w hM=>Zy (hM.rd_at 1 rfl) (by simp) Kr (by first|exact i4_|exact aO _|exact cC.2 i4_) (by first|exact i4_|exact aO _|exact cC.2 i4_)) {} (Uk (Γ:=Unit) (sU (Instr.storeAt 3 (.pointer (some ((Ix A_5 (k_4*1)).add 0))) (.i (w64 ((zt[k_4]?.getD 0)-qy))))) 1 (Ow A_5 c_5 3 1 ((zt.set k_4 (w64 ((zt[k_4]?.getD 0)-qy))).map ic)) (X5 (n:=1) (off:=0) (.i (w64 ((zt[k_4]?.getD 0)-qy))) 1 ((zt.set k_4 (w64 ((zt[k_4]?.getD 0)-qy))).map ic) rfl (ZR (getD_at _ _ 0 (by first|exact i4_|exact aO _|exact cC.2 i4_))) Kr Kr Kr Kr (Qn Kr)) Kr (TL.rw 20 (.slice A_5 zt.length c_5) (.slice A_5 ((zt.set k_4 (w64 ((zt[k_4]?.getD 0)-qy))).length) c_5) Kr (by simp only[aQ]) (Z2 rfl (Yr (Z4 (TC.region (Zc 2 [] [(140,.i (w64 ((k_4:Int)+1)))] {} (Z2 rfl (TE.rw 140 (.i (w64 ((k_4:Int)+1))) (.i ((k_4+1:Nat):Int)) Kr (ZT k_4 (by omega)) (Z7 (x:=(k_4,u_5,v_5,zt)) (k_4+1,u_5,v_5,(zt.set k_4 (w64 ((zt[k_4]?.getD 0)-qy)))) ⟨by omega,ri.trans (by subst hr1 hr2;rw[du];exact Zd h9 (rfl)),sl,sl,sl⟩ (mN gi) Kr (sb 1023))))))))))))))))
          ·have du:=QE h8
           refine TC.exit (Yc (Yc (Z1 ?_)))
           exact TE.cut (u_5,v_5,zt) (⟨ri.trans (by subst hr1 hr2;rw[du];exact rfl),sl,sl,sl⟩) Kr (sb 1023)
         ·rintro⟨u_6,v_6,kp⟩ ⟨gu,iq,ir,mn⟩
          refine YZ (Zc 2 [] [(19,.i zc)] {} (Zv (Zc 2 [] [(173,.slice A_3 ((row.set 0 (1+(k:Int))).length) c_3),(174,.i zc)] {} (TL.v (sV (Instr.indexAt 22 (.slice A_3 ((row.set 0 (1+(k:Int))).length) c_3) (.i zc))) 175 (.pointer (some (Ix A_3 (zc.toNat*1)))) (fun w hM=>Zy (hM.rd_at 2 rfl) (by simp) Kr sd sd) {} (TL.v (sV (Instr.loadAt 3 (.pointer (some (Ix A_3 (zc.toNat*1)))))) 176 (.i ((row.set 0 (1+(k:Int)))[zc.toNat]?.getD 0)) (fun w hM=>Z3 (off:=0) (i:=zc.toNat) (.i ((row.set 0 (1+(k:Int)))[zc.toNat]?.getD 0)) (hM.rd_at 2 rfl) (ZR (getD_at _ _ 0 sd)) Kr Kr) {} (Zc 5 [] [(177,.b (((row.set 0 (1+(k:Int)))[zc.toNat]?.getD 0)==0))] {} (Zb rfl (TC.cond (((row.set 0 (1+(k:Int)))[zc.toNat]?.getD 0)==0) rfl Kr (fun h10=>?_) (fun h10=>?_)))))))))
          ·have sj:=(Xf h10)
           refine TC.exit (Ww rfl (Yc (Z1 ?_)))
           exact TE.cut (zc,u_6,v_6,vg,kp,(used.set at_.toNat true)) (⟨cU (w6.symm.trans (by subst hr1 hr2;exact Y5 (uv.symm.trans ux) (Y5 (fv.symm.trans gu) (Zk h10 (rfl))))),sl,sl,sl,sl,sl,(TP ks_ jl hlt yb uv ux fv gu h10)⟩) Kr (sb 1020)
          ·have sj:=(Yh h10)
           exact TC.skip (Yr (Z7 (x:=(m+1,at_,u_3,v_3,ve,vf,used)) (m,zc,u_6,v_6,vg,kp,(used.set at_.toNat true)) ⟨by omega,(by subst hr1 hr2;refine Eq.trans (Eq.symm ?_) w6;exact Y5 (uv.symm.trans ux) (Y5 (fv.symm.trans gu) (Zd h10 (rfl)))),sl,sl,sl,sl,sl,(PY ks_ jl hlt yb uv ux fv gu h10)⟩ (cT _) Kr (sb 1023)))
       ·rintro⟨wh,u_4,v_4,zi,ud,zb⟩ ⟨gr,iu,iv,mo,mq,gv,kz⟩
        refine Z4 ?_
        obtain⟨R12,rj⟩:∃ R,XR zi 100 wh (row.set 0 (1+(k:Int)))=some R:=RL ks_ jl hlt kz
        refine TC.cut (S:=(List Int)) (fun wi=>[(10,.i r1),(12,.i r2),(13,.func (.func 125) #[] #[.p0 b4,.p0 b1,.p0 b2,.p0 b3]),(14,.slice A u_4.length c),(15,.slice A_2 v_4.length c_2),(16,.slice A_3 wi.length c_3),(17,.slice A_4 zi.length c_4),(18,.i (1+(k:Int)))]) (fun wi=>[Ow A_3 c_3 3 1 (wi.map ic),Ow A_4 c_4 3 1 (zi.map ic),Ow A c 3 1 (u_4.map ic),Ow A_2 c_2 3 1 (v_4.map ic),Bk b4 #[.i (((qa.drop from_.toNat)[0]?.getD []).length:Int)] 3,Bk b3 #[.slice A1 ((qa.drop from_.toNat).length) (qe-from_.toNat)] 114,Bk b2 #[.slice A_taken taken.length zn] 119,Bk b1 #[.i qb] 3]) (fun wi=>R12=wi∧wi.length=row.length) ?_ ?_
        ·refine TC.block (XB (X:=Nat×Int×(List Int)) (fun (m_2,q9,xd)=>[(10,.i r1),(12,.i r2),(13,.func (.func 125) #[] #[.p0 b4,.p0 b1,.p0 b2,.p0 b3]),(14,.slice A u_4.length c),(15,.slice A_2 v_4.length c_2),(16,.slice A_3 xd.length c_3),(17,.slice A_4 zi.length c_4),(18,.i (1+(k:Int))),(19,.i q9)]) (fun (m_2,q9,xd)=>[Ow A_3 c_3 3 1 (xd.map ic),Ow A_4 c_4 3 1 (zi.map ic),Ow A c 3 1 (u_4.map ic),Ow A_2 c_2 3 1 (v_4.map ic),Bk b4 #[.i (((qa.drop from_.toNat)[0]?.getD []).length:Int)] 3,Bk b3 #[.slice A1 ((qa.drop from_.toNat).length) (qe-from_.toNat)] 114,Bk b2 #[.slice A_taken taken.length zn] 119,Bk b1 #[.i qb] 3]) (fun (m_2,q9,xd)=>m_2) (fun (m_2,q9,xd)=>m_2≤100∧XR zi m_2 q9 xd=some R12∧xd.length=row.length∧(0≤q9∧q9≤r2)) ?_ (100,wh,(row.set 0 (1+(k:Int)))) ⟨aR _,rj,sz,(PZ ks_ kz)⟩ Kr (sb 255))
         rintro⟨m_2,q9,xd⟩ ⟨ov,rk,mu,gj⟩
         have kw_:=Oa ks_ kz gj
         rcases m_2 with _|m_2
         ·cases rk
         refine TC.seq (Ze (Zc 2 [] [(179,.b (q9 != 0))] {} (Zb rfl (TC.cond (q9 != 0) rfl Kr (fun h11=>?_) (fun h11=>?_)))))
         ·have fw:=(C6 h11)
          exact Yg (TC.block (Ze (Zc 5 [] [(180,.slice A_3 xd.length c_3),(181,.i q9),(182,.slice A_3 xd.length c_3),(183,.slice A_4 zi.length c_4),(184,.i q9)] {} (TL.v (sV (Instr.indexAt 22 (.slice A_4 zi.length c_4) (.i q9))) 185 (.pointer (some (Ix A_4 (q9.toNat*1)))) (fun w hM=>Zy (hM.rd_at 1 rfl) (by simp) Kr sd sd) {} (TL.v (sV (Instr.loadAt 3 (.pointer (some (Ix A_4 (q9.toNat*1)))))) 186 (.i (zi[q9.toNat]?.getD 0)) (fun w hM=>Z3 (off:=0) (i:=q9.toNat) (.i (zi[q9.toNat]?.getD 0)) (hM.rd_at 1 rfl) (ZR (getD_at _ _ 0 sd)) Kr Kr) {} (TL.v (sV (Instr.indexAt 22 (.slice A_3 xd.length c_3) (.i (zi[q9.toNat]?.getD 0)))) 187 (.pointer (some (Ix A_3 ((zi[q9.toNat]?.getD 0).toNat*1)))) (fun w hM=>Zy (hM.rd_at 0 rfl) (by simp) Kr sd sd) {} (TL.v (sV (Instr.loadAt 3 (.pointer (some (Ix A_3 ((zi[q9.toNat]?.getD 0).toNat*1)))))) 188 (.i (xd[(zi[q9.toNat]?.getD 0).toNat]?.getD 0)) (fun w hM=>Z3 (off:=0) (i:=(zi[q9.toNat]?.getD 0).toNat) (.i (xd[(zi[q9.toNat]?.getD 0).toNat]?.getD 0)) (hM.rd_at 0 rfl) (ZR (getD_at _ _ 0 sd)) Kr Kr) {} (TL.v (sV (Instr.indexAt 22 (.slice A_3 xd.length c_3) (.i q9))) 189 (.pointer (some (Ix A_3 (q9.toNat*1)))) (fun w hM=>Zy (hM.rd_at 0 rfl) (by simp) Kr sd sd) {} (Uk (Γ:=Unit) (sU (Instr.storeAt 3 (.pointer (some ((Ix A_3 (q9.toNat*1)).add 0))) (.i (xd[(zi[q9.toNat]?.getD 0).toNat]?.getD 0)))) 0 (Ow A_3 c_3 3 1 ((xd.set q9.toNat (xd[(zi[q9.toNat]?.getD 0).toNat]?.getD 0)).map ic)) (X5 (n:=1) (off:=0) (.i (xd[(zi[q9.toNat]?.getD 0).toNat]?.getD 0)) 0 ((xd.set q9.toNat (xd[(zi[q9.toNat]?.getD 0).toNat]?.getD 0)).map ic) rfl (ZR (getD_at _ _ 0 sd)) Kr Kr Kr Kr (Qn Kr)) Kr (TL.rw 16 (.slice A_3 xd.length c_3) (.slice A_3 ((xd.set q9.toNat (xd[(zi[q9.toNat]?.getD 0).toNat]?.getD 0)).length) c_3) Kr (by simp only[aQ]) (Zb rfl (TC.region (Zc 2 [] [(190,.slice A_4 zi.length c_4),(191,.i q9)] {} (TL.v (sV (Instr.indexAt 22 (.slice A_4 zi.length c_4) (.i q9))) 192 (.pointer (some (Ix A_4 (q9.toNat*1)))) (fun w hM=>Zy (hM.rd_at 1 rfl) (by simp) Kr sd sd) {} (TL.v (sV (Instr.loadAt 3 (.pointer (some (Ix A_4 (q9.toNat*1)))))) 193 (.i (zi[q9.toNat]?.getD 0)) (fun w hM=>Z3 (off:=0) (i:=q9.toNat) (.i (zi[q9.toNat]?.getD 0)) (hM.rd_at 1 rfl) (ZR (getD_at _ _ 0 sd)) Kr Kr) {} (Zc 5 [] [(19,.i (zi[q9.toNat]?.getD 0))] {} (Z2 rfl (Yr (Z7 (x:=(m_2+1,q9,xd)) (m_2,(zi[q9.toNat]?.getD 0),(xd.set q9.toNat (xd[(zi[q9.toNat]?.getD 0).toNat]?.getD 0))) ⟨by omega,(by subst hr1 hr2;refine Eq.trans (Eq.symm ?_) rk;exact Zk h11 (rfl)),sl,(Oa ks_ kz gj)⟩ (cT _) Kr (sb 255))))))))))))))))))))
         ·have fw:=(Jb h11)
          refine TC.exit (Yc (Yc (Z1 ?_)))
          exact TE.cut xd (⟨cU (rk.symm.trans (by subst hr1 hr2;exact Zd h11 (rfl))),sl⟩) Kr (sb 255)
        ·rintro wi ⟨mx,my⟩
         exact Yr (Z4 (TC.region (Zc 3 [] [(18,.i (w64 ((1+(k:Int))+1)))] {} (Z2 rfl (TE.rw 18 (.i (w64 ((1+(k:Int))+1))) (.i (1+((k+1:Nat):Int))) Kr (int_eq (by first|omega|(rw[Zu (by omega)];omega)|(simp only[Ya] at *;omega))) (Z7 (x:=(k,u,v,row,way)) (k+1,u_4,v_4,wi,zi) ⟨by omega,hI.trans (by subst hr1 hr2;rw[hd];exact Y5 (x9.symm.trans va) (Y5 ((congrArg (Option.getD · _) uj).trans gr) (Y5 ((congrArg (Option.getD · _) rj).trans mx) (rfl)))),sl,sl,sl,sl,(TR ks_ jl hlt kz rj mx)⟩ (mN hlt) Kr (sb 255)))))))
     ·have hd:r1.toNat-k=0:=by have p0_:=(Zt h2);first|omega|(simp only[Ya] at *;omega)
      refine TC.exit (Yc (Yc (Z1 ?_)))
      exact TE.cut (u,v,row,way) (⟨hI.trans (by subst hr1 hr2;rw[hd];exact rfl),sl,sl,sl,sl,(PX jl hk hd)⟩) Kr (sb 241)
    ·rintro⟨u_2,v_2,qx,uc⟩ ⟨hJ,iw,iy,ft,mz,ky⟩
     refine YZ (Zc 1 [] [(29,.i 0)] {} (Zz (Ze (Zc 1 [] [(30,.i 1)] {} (Zb rfl ?_)))))
     obtain⟨R13,ca⟩:∃ R,R=QY qa qb from_ taken qx r2.toNat 0 0:=⟨_,rfl⟩
     refine TC.cut (S:=Int) (fun kj=>[(29,.i kj)]) (fun kj=>[]) (fun kj=>R13=kj) ?_ ?_
     ·refine TC.block (TC.rw 30 (.i 1) (.i (1+((0:Nat):Int))) Kr (int_eq (by first|omega|(rw[Zu (by omega)];omega)|(simp only[Ya];omega))) (XB (X:=Nat×Int) (fun (k_5,kt)=>[(12,.i r2),(13,.func (.func 125) #[] #[.p0 b4,.p0 b1,.p0 b2,.p0 b3]),(16,.slice A_3 qx.length c_3),(29,.i kt),(30,.i (1+(k_5:Int)))]) (fun (k_5,kt)=>[Ow A_3 c_3 3 1 (qx.map ic),Bk b4 #[.i (((qa.drop from_.toNat)[0]?.getD []).length:Int)] 3,Bk b3 #[.slice A1 ((qa.drop from_.toNat).length) (qe-from_.toNat)] 114,Bk b2 #[.slice A_taken taken.length zn] 119,Bk b1 #[.i qb] 3]) (fun (k_5,kt)=>r2.toNat-k_5) (fun (k_5,kt)=>k_5≤r2.toNat∧R13=QY qa qb from_ taken qx (r2.toNat-k_5) k_5 kt) ?_ (0,0) ⟨aN _,ca⟩ Kr (sb 31)))
      rintro⟨k_5,kt⟩ ⟨ow,rl⟩
      refine TC.seq (Ze (Zc 3 [] [(196,.b (decide ((1+(k_5:Int))≤r2)))] {} (Zb rfl (TC.cond (decide ((1+(k_5:Int))≤r2)) rfl Kr (fun h12=>?_) (fun h12=>?_)))))
      ·have sk:k_5<r2.toNat:=by have p0_:=(Ys h12);first|omega|(simp only[Ya] at *;omega)
       have kl_:=NK ks_ ky (j:=(1+(k_5:Int)).toNat) (by have:=(Ys h12);omega)
       have dv:r2.toNat-k_5=(r2.toNat-(k_5+1))+1:=by omega
       have ay:=(Ys h12)
       refine Yg (TC.seq (TC.block (Ze (Zc 2 [] [(199,.slice A_3 qx.length c_3),(200,.i (1+(k_5:Int)))] {} (TL.v (sV (Instr.indexAt 22 (.slice A_3 qx.length c_3) (.i (1+(k_5:Int))))) 201 (.pointer (some ((A_3.getD Y4).add ((1+(k_5:Int)).toNat*1)))) (fun w hM=>Zy (hM.rd_at 0 rfl) (by simp) Kr sd sd) {} (TL.v (sV (Instr.loadAt 3 (.pointer (some ((A_3.getD Y4).add ((1+(k_5:Int)).toNat*1)))))) 202 (.i (qx[(1+(k_5:Int)).toNat]?.getD 0)) (fun w hM=>Z3 (off:=0) (i:=(1+(k_5:Int)).toNat) (.i (qx[(1+(k_5:Int)).toNat]?.getD 0)) (hM.rd_at 0 rfl) (ZR (getD_at _ _ 0 sd)) Kr Kr) {} (Zc 5 [] [(203,.b (decide ((qx[(1+(k_5:Int)).toNat]?.getD 0)>0)))] {} (Zb rfl (TC.cond (decide ((qx[(1+(k_5:Int)).toNat]?.getD 0)>0)) rfl Kr (fun h13=>?_) (fun h13=>?_))))))))))
       ·have cd:=(Ys h13)
        exact TC.region (Zc 4 [] [(204,.i kt),(205,.func (.func 125) #[] #[.p0 b4,.p0 b1,.p0 b2,.p0 b3]),(206,.slice A_3 qx.length c_3),(207,.i (1+(k_5:Int)))] {} (TL.v (sV (Instr.indexAt 22 (.slice A_3 qx.length c_3) (.i (1+(k_5:Int))))) 208 (.pointer (some ((A_3.getD Y4).add ((1+(k_5:Int)).toNat*1)))) (fun w hM=>Zy (hM.rd_at 0 rfl) (by simp) Kr sd sd) {} (TL.v (sV (Instr.loadAt 3 (.pointer (some ((A_3.getD Y4).add ((1+(k_5:Int)).toNat*1)))))) 209 (.i (qx[(1+(k_5:Int)).toNat]?.getD 0)) (fun w hM=>Z3 (off:=0) (i:=(1+(k_5:Int)).toNat) (.i (qx[(1+(k_5:Int)).toNat]?.getD 0)) (hM.rd_at 0 rfl) (ZR (getD_at _ _ 0 sd)) Kr Kr) {} (Zc 9 [] [(210,.i (w64 ((qx[(1+(k_5:Int)).toNat]?.getD 0)-1))),(212,.i (w64 ((1+(k_5:Int))-1)))] {} (TL.c 213 (YT (w64 ((qx[(1+(k_5:Int)).toNat]?.getD 0)-1)) (w64 ((1+(k_5:Int))-1)) (((qa.drop from_.toNat)[0]?.getD []).length:Int) qb taken (qa.drop from_.toNat)) (fun r4=>.i r4) (fun w hM=>UP (w64 ((qx[(1+(k_5:Int)).toNat]?.getD 0)-1)) (w64 ((1+(k_5:Int))-1)) ⟨b4,0,none⟩ (((qa.drop from_.toNat)[0]?.getD []).length:Int) ⟨b1,0,none⟩ qb ⟨b2,0,none⟩ A_taken zn taken ⟨b3,0,none⟩ A1 (qe-from_.toNat) (qa.drop from_.toNat) (qf.drop from_.toNat) w (Rd.lit hM 1 _ rfl Kr Kr Kr) (Rd.lit hM 4 _ rfl Kr Kr Kr) (Rd.lit hM 3 _ rfl Kr Kr Kr) ⟨(uu.sat hM),pn⟩ (Rd.lit hM 2 _ rfl Kr Kr Kr) (hR1.sat hM) hC1 (fun s hs=>((FX zg from_.toNat) s hs).sat hM) (GT qm from_.toNat) (by first|exact Gl ks_ htk (RJ ks_ jl hlt yb).2 (by have:=(Ys h4);omega)|exact Gl ks_ htk (by have q_:=NK ks_ ky (j:=(1+(k_5:Int)).toNat) (by have:=(Ys h12);have:=ks_.facts;omega);have:=(Ys h13);omega) (by have:=(Ys h12);omega))) {} (fun r4 hr4=>Zc 12 [] [(29,.i (w64 (kt+r4)))] {} (Z2 rfl (Yr (Z4 (TC.region (Zc 3 [] [(30,.i (w64 ((1+(k_5:Int))+1)))] {} (Z2 rfl (TE.rw 30 (.i (w64 ((1+(k_5:Int))+1))) (.i (1+((k_5+1:Nat):Int))) Kr (int_eq (by first|omega|(rw[Zu (by omega)];omega)|(simp only[Ya] at *;omega))) (Z7 (x:=(k_5,kt)) (k_5+1,w64 (kt+r4)) ⟨by omega,rl.trans (by subst hr1 hr2 hr4;rw[dv];exact Zk h13 (rfl))⟩ (mN sk) Kr (sb 31)))))))))))))))
       ·have cd:=(Zt h13)
        exact TC.skip (Yr (Z4 (TC.region (Zc 3 [] [(30,.i (w64 ((1+(k_5:Int))+1)))] {} (Z2 rfl (TE.rw 30 (.i (w64 ((1+(k_5:Int))+1))) (.i (1+((k_5+1:Nat):Int))) Kr (int_eq (by first|omega|(rw[Zu (by omega)];omega)|(simp only[Ya] at *;omega))) (Z7 (x:=(k_5,kt)) (k_5+1,kt) ⟨by omega,rl.trans (by subst hr1 hr2;rw[dv];exact Zd h13 (rfl))⟩ (mN sk) Kr (sb 31))))))))
      ·have dv:r2.toNat-k_5=0:=by have p0_:=(Zt h12);first|omega|(simp only[Ya] at *;omega)
       refine TC.exit (Yc (Yc (Z1 ?_)))
       exact TE.cut kt (rl.trans (by subst hr1 hr2;rw[dv];exact rfl)) Kr (sb 0)
     ·rintro kj hJ_8
      exact YZ (Zc 2 [] [(8,.i kj)] {} (Zb rfl (TC.ret (TE.ret [] (.i kj) {} (by unfold ZM;refine eS (fun z=>(.i z:Value)) ?_;subst hr1 hr2;exact Zd h1 (Y5 (hR.symm.trans hJ) (Y5 (ca.symm.trans hJ_8) (rfl))))))))
end Go.Sky
end
section
namespace Go.Sky
open Go Go.Eng Go.Proofs
def Qm (qa:List (List Int)) (qb:Int):Int×Int :=
 let r1:=YC qa qb
 cond (r1 != 0) (
  (0,r1)) (
  let r2:=QJ qa
  let r3:=ZM qa qb 0 (List.replicate r2.toNat false)
  (r3,0))
def QQ (qa:List (List Int)) (qb:Int) (k:Nat):List Int→Nat→Int→Int→(List Bool)→(Int×Int×List Bool)
 | [],_,zy,choice,qn=>(zy,choice,qn)
 | x_2::xs,k_2,zy,choice,qn=>cond (decide (x_2<0)) (
   QQ qa qb k xs (k_2+1) zy choice qn) (
   cond ((qn[k_2]?.getD false)) (
    QQ qa qb k xs (k_2+1) zy choice qn) (
    let r4:=ZM qa qb (w64 ((k:Int)+1)) (qn.set k_2 true)
    cond ((w64 (x_2+r4))==zy) (
     (w64 (zy-x_2),(k_2:Int),(qn.set k_2 true))) (
     QQ qa qb k xs (k_2+1) zy choice ((qn.set k_2 true).set k_2 false))))
def Jq (qa:List (List Int)) (qb:Int):List (List Int)→Nat→Int→(List Int)→(List Bool)→(List Int×List Bool)
 | [],_,_,out,taken=>(out,taken)
 | x::xs,k,left,out,taken=>let r3:=ZM qa qb (w64 ((k:Int)+1)) taken
  cond ((w64 (qb+r3))==left) (
   Jq qa qb xs (k+1) (w64 (left-qb)) (out++([(-1)])) taken) (
   Xq (QQ qa qb k x 0 left (-1) taken) (fun (k5,xp,j7) =>
    Jq qa qb xs (k+1) k5 (out++([xp])) j7))
def XF (qa:List (List Int)) (qb:Int):List Int×Int×Int :=
 let r1:=Qm qa qb
 cond (r1.2 != 0) (
  ([],0,r1.2)) (
  let r2:=QJ qa
  Xq (Jq qa qb qa 0 r1.1 ([]:List Int) (List.replicate r2.toNat false)) (fun (ql,_) =>
   (ql,r1.1,0)))
end Go.Sky
end
section
namespace Go.Sky
open Go Go.Eng
inductive W9 (qb:Int):List (List Int)→List Bool→List Int→Int→Prop
 | nil (taken:List Bool):W9 qb [] taken [] 0
 | skip {row:List Int} {rows:List (List Int)} {taken:List Bool} {to:List Int} {t:Int}:W9 qb rows taken to t→W9 qb (row::rows) taken ((-1)::to) (qb+t)
 | pick {row:List Int} {rows:List (List Int)} {taken:List Bool} {to:List Int} {t:Int} (k:Nat):k<row.length→gb taken k=false→0≤gt row k→W9 qb rows (taken.set k true) to t→W9 qb (row::rows) taken ((k:Int)::to) (gt row k+t)
theorem W9.val {qb:Int} {rows:List (List Int)} {taken:List Bool} {to:List Int} {t:Int} (h:W9 qb rows taken to t):Val qb rows taken t:=by
 induction h with
 | nil taken=>exact .nil taken
 | skip _ ih=>exact .skip ih
 | pick k h1 h2 h3 _ ih=>exact .pick k h1 h2 h3 ih
theorem W9.len {qb:Int} {rows:List (List Int)} {taken:List Bool} {to:List Int} {t:Int} (h:W9 qb rows taken to t):to.length=rows.length:=by
 induction h with
 | nil taken=>rfl
 | skip _ ih=>rw[aG,aG,ih]
 | pick k h1 h2 h3 _ ih=>rw[aG,aG,ih]
theorem Ly {qb:Int}:∀ (rows:List (List Int)) (taken:List Bool),Val qb rows taken ((rows.length:Int)*qb)
 | [],taken=>by rw[show (([]:List (List Int)).length:Int)*qb=0 by simp];exact .nil taken
 | row::rows,taken=>by
  rw[show (((row::rows).length:Int))*qb=qb+(rows.length:Int)*qb by rw[aG,gL,gQ];simp[Int.add_comm]]
  exact .skip (Ly rows taken)
theorem Val.nonneg {qb:Int} {rows:List (List Int)} {taken:List Bool} {t:Int} (h:Val qb rows taken t) (hm:0≤qb):0≤t:=by
 induction h with
 | nil taken=>exact dL _
 | skip _ ih=>omega
 | pick k h1 h2 h3 _ ih=>omega
theorem E5 {qb t:Int} {taken:List Bool} (h:Val qb [] taken t):t=0:=by cases h;rfl
theorem Ob {l:List Bool} {j:Nat} (h:gb l j=false) (hj:j<l.length):(l.set j true).set j false=l:=by
 have e:l[j]=false:=by unfold gb at h;rw[aS hj] at h;exact h
 rw[List.set_set]
 exact(congrArg (l.set j) e.symm).trans (List.set_getElem_self hj)
theorem FA {α:Type} {l xs:List α} {x:α} {k:Nat} (h:l.drop k=x::xs):l.drop (k+1)=xs∧l[k]?=some x∧k<l.length:=by
 have e1:l.drop (k+1)=xs:=by rw[← eL,h];rfl
 have e2:(l.drop k)[0]?=some x:=by rw[h];rfl
 rw[cV,bI] at e2
 exact⟨e1,e2,(aK.1 e2).1⟩
section
variable {qa:List (List Int)} {qv:Nat} {qb:Int}
theorem G7 (g:Good qa qv qb) (k:Nat) {taken:List Bool} (ht:taken.length=qv):Val qb (qa.drop k) taken (ZM qa qb (k:Int) taken)∧(∀ t,Val qb (qa.drop k) taken t→ZM qa qb (k:Int) taken≤t)∧0≤ZM qa qb (k:Int) taken∧ZM qa qb (k:Int) taken≤35184372088832:=by
 have g':=g.from k
 have q:=TK (qa:=qa) (qb:=qb) (from_:=(k:Int)) (taken:=taken) (qv:=qv) (by rw[aP];exact g') ht
 rw[aP] at q
 refine⟨q.1,q.2,q.1.nonneg g.mb.1,dJ (q.2 _ (Ly _ _)) ?_⟩
 have n1:=g'.n1
 have:((qa.drop k).length:Int)*qb≤32*1099511627776:=bX (by omega) g.mb.2 g.mb.1 (by omega)
 omega
theorem L0 (g:Good qa qv qb) {k:Nat} (hk:k<1000) {x:List Int} (hx:x∈qa) {left:Int} (hl:0≤left∧left≤35184372088832) {taken:List Bool} (ht:taken.length=qv) :
  ∀ (ys:List Int) (j:Nat),x.drop j=ys→(∃ i,j≤i∧i<qv∧gb taken i=false∧0≤gt x i∧gt x i+ZM qa qb ((k+1:Nat):Int) (taken.set i true)=left) →
   ∃ i,i<qv∧gb taken i=false∧0≤gt x i∧gt x i+ZM qa qb ((k+1:Nat):Int) (taken.set i true)=left∧QQ qa qb k ys j left (-1) taken=(left-gt x i,(i:Int),taken.set i true)
 | [],j,hd,⟨i,i1,i2,_⟩=>by
  have:=congrArg List.length hd
  rw[bU,g.len x hx] at this
  simp at this;omega
 | y::ys,j,hd,⟨i,i1,i2,i3,i4,i5⟩=>by
  obtain⟨d1,d2,d3⟩:=FA hd
  have ey:gt x j=y:=by unfold gt;rw[d2];rfl
  have by_:=g.bnd x hx _ (PW d3)
  have d4:=g.len x hx
  have ih:=L0 g hk hx hl ht ys (j+1) d1
  have ek:w64 ((k:Int)+1)=((k+1:Nat):Int):=by rw[Zu (by omega)];omega
  unfold QQ
  by_cases h0:y<0
  ·rw[show decide (y<0)=true from decide_eq_true h0,cond_true]
   have:i≠j:=by rintro rfl;omega
   exact ih ⟨i,by omega,i2,i3,i4,i5⟩
  ·rw[show decide (y<0)=false from decide_eq_false h0,cond_false]
   cases hb:gb taken j
   ·rw[show taken[j]?.getD false=false from hb,cond_false,ek]
    have hr:=(G7 g (k+1) (taken:=taken.set j true) (by rw[aQ];exact ht)).2.2
    simp only
    rw[Zu (x:=y+_) (by omega)]
    by_cases he:y+ZM qa qb ((k+1:Nat):Int) (taken.set j true)=left
    ·rw[show (y+ZM qa qb ((k+1:Nat):Int) (taken.set j true)==left)=true by simpa using he,cond_true,Zu (by omega)]
     exact⟨j,by omega,hb,by omega,by rw[ey];exact he,by rw[ey]⟩
    ·rw[show (y+ZM qa qb ((k+1:Nat):Int) (taken.set j true)==left)=false by simpa using he,cond_false,Ob hb (by omega)]
     have:i≠j:=by rintro rfl;rw[ey] at i5;exact he i5
     exact ih ⟨i,by omega,i2,i3,i4,i5⟩
   ·rw[show taken[j]?.getD false=true from hb,cond_true]
    have:i≠j:=by rintro rfl;rw[hb] at i3;cases i3
    exact ih ⟨i,by omega,i2,i3,i4,i5⟩
theorem Dv (g:Good qa qv qb):∀ (xs:List (List Int)) (k:Nat) (left:Int) (out:List Int) (taken:List Bool),qa.drop k=xs→taken.length=qv→left=ZM qa qb (k:Int) taken →
  ∃ (to:List Int) (rn:List Bool),Jq qa qb xs k left out taken=(out++to,rn)∧W9 qb xs taken to left
 | [],k,left,out,taken,hd,ht,hl=>by
  have q:=(G7 g k ht).1
  rw[hd] at q
  refine⟨[],taken,by rw[bS];rfl,?_⟩
  rw[hl,E5 q]
  exact .nil taken
 | x::xs,k,left,out,taken,hd,ht,hl=>by
  obtain⟨d1,d2,d3⟩:=FA hd
  have hn:=g.n1
  have hm:=g.mb
  have hx:x∈qa:=aH d2
  obtain⟨q1,q2,q3,q4⟩:=G7 g k ht
  obtain⟨r1,r2,r3,r4⟩:=G7 g (k+1) ht
  rw[hd] at q1 q2
  rw[d1] at r1 r2
  rw[← hl] at q1 q2 q3 q4
  have ek:w64 ((k:Int)+1)=((k+1:Nat):Int):=by rw[Zu (by omega)];omega
  unfold Jq
  simp only[ek]
  rw[Zu (x:=qb+_) (by omega)]
  by_cases he:qb+ZM qa qb ((k+1:Nat):Int) taken=left
  ·rw[show (qb+ZM qa qb ((k+1:Nat):Int) taken==left)=true by simpa using he,cond_true,Zu (by omega)]
   obtain⟨to,tk,e,p⟩:=Dv g xs (k+1) (left-qb) (out ++ [(-1)]) taken d1 ht (by omega)
   refine⟨(-1)::to,tk,by rw[e];simp,?_⟩
   have:=W9.skip (row:=x) p
   rwa [show qb+(left-qb)=left by omega] at this
  ·rw[show (qb+ZM qa qb ((k+1:Nat):Int) taken==left)=false by simpa using he,cond_false]
   have ex:∃ i,0≤i∧i<qv∧gb taken i=false∧0≤gt x i∧gt x i+ZM qa qb ((k+1:Nat):Int) (taken.set i true)=left:=by
    generalize hL:left=L at q1
    cases q1 with
    | skip h =>
     have a:=r2 _ h
     have b:=q2 _ (.skip r1)
     omega
    | pick i h1 h2 h3 h4 =>
     obtain⟨s1,s2,_,_⟩:=G7 g (k+1) (taken:=taken.set i true) (by rw[aQ];exact ht)
     rw[d1] at s1 s2
     have a:=s2 _ h4
     have b:=q2 _ (.pick i h1 h2 h3 s1)
     exact⟨i,aN _,by rw[← g.len x hx];exact h1,h2,h3,by omega⟩
   obtain⟨i,i1,i2,i3,i4,e⟩:=L0 g (k:=k) (by omega) hx ⟨q3,q4⟩ ht x 0 eM ex
   rw[e]
   unfold Xq
   simp only
   obtain⟨to,tk,e2,p⟩:=Dv g xs (k+1) (left-gt x i) (out ++ [(i:Int)]) (taken.set i true) d1 (by rw[aQ];exact ht) (by omega)
   refine⟨(i:Int)::to,tk,by rw[e2];simp,?_⟩
   have:=W9.pick (row:=x) i (by rw[g.len x hx];exact i1) i2 i3 p
   rwa [show gt x i+(left-gt x i)=left by omega] at this
end
end Go.Sky
namespace Go.Sky
open Go Go.Eng
theorem RN {qa:List (List Int)} {qb:Int} (h:YC qa qb=0):Qm qa qb=(ZM qa qb 0 (List.replicate (qa[0]?.getD []).length false),0):=by
 unfold Qm
 simp only[h]
 rw[show ((0:Int) != 0)=false from rfl,cond_false,Du,aP]
theorem TS {qa:List (List Int)} {qb:Int} (h:YC qa qb≠0):Qm qa qb=(0,YC qa qb):=by
 unfold Qm
 simp only
 rw[show (YC qa qb != 0)=true by simpa using h,cond_true]
theorem TT {qa:List (List Int)} {qb:Int} (h:YC qa qb=0):∃ to,XF qa qb=(to,ZM qa qb 0 (List.replicate (qa[0]?.getD []).length false),0) ∧
  W9 qb qa (List.replicate (qa[0]?.getD []).length false) to (ZM qa qb 0 (List.replicate (qa[0]?.getD []).length false)):=by
 have g:=Dt h
 obtain⟨to,tk,e,p⟩:=Dv g qa 0 (ZM qa qb 0 (List.replicate (qa[0]?.getD []).length false)) [] (List.replicate (qa[0]?.getD []).length false) eM bL rfl
 refine⟨to,?_,p⟩
 have et:Qm qa qb=(ZM qa qb 0 (List.replicate (qa[0]?.getD []).length false),0):=RN h
 unfold XF
 rw[et]
 simp only
 rw[show ((0:Int) != 0)=false from rfl,cond_false,Du,aP]
 unfold Xq
 rw[e]
 rfl
theorem B5 {qa:List (List Int)} {qb r1:Int} (h1:YC qa qb=r1) (h:(r1 != 0)=false):Good qa (qa[0]?.getD []).length qb:=by
 subst h1;exact Dt (by simpa using h)
theorem Xp {qa:List (List Int)} {r2:Int} (h:QJ qa=r2):r2=((qa[0]?.getD []).length:Int):=by rw[← h,Du]
theorem X4 {qa:List (List Int)} {qb:Int} {r1:Int×Int} (h1:Qm qa qb=r1) (h:(r1.2 != 0)=false):Good qa (qa[0]?.getD []).length qb:=by
 subst h1
 by_cases hc:YC qa qb=0
 ·exact Dt hc
 ·rw[TS hc] at h;exact absurd h (by simpa using hc)
theorem YR {qa:List (List Int)} {qv:Nat} {qb:Int} (g:Good qa qv qb) {i:Nat} {x:List Int} (hx:qa[i]?=some x):x.length=qv:=g.len x (aH hx)
end Go.Sky
end
section
namespace Go.Sky
open Go Go.Eng Go.Proofs
theorem Dw (A_costs:Option Addr) (qe:Nat) (qa:List (List Int)) (qf:List (Sl Int)) (qb:Int) (w:World) (zk:Rd w 1 A_costs (qf.map Sl.c)) (jk:qa.length≤qe) (zg:∀ s∈qf,s.rd w 1 ic) (qm:qa=qf.map Sl.l):Calls Tryz.prog 86 #[.slice A_costs qa.length qe,.int .i64 qb] w (Ret w (.tuple #[.int .i64 ((Qm qa qb).1),.int .i64 ((Qm qa qb).2)])):=by
 have vi:=zk.short;rw[← KO qm] at vi
 refine Zo (vs:=[.slice A_costs qa.length qe,.i qb]) (w:=w) Tryz.func86 rfl Tryz.ntmps86 rfl (Ze (Zc 2 [] [(4,.i 0),(5,.i 0)] {} (Zz (Ze (Zc 2 [] [(7,.slice A_costs qa.length qe),(8,.i qb)] {} (TL.c 9 (YC qa qb) (fun r1=>.i r1) (fun w hM=>Do A_costs qe qa qf qb w (zk.sat hM) jk (fun s hs=>(zg s hs).sat hM) qm) {} (fun r1 hr1=>Zc 4 [] [(6,.i r1)] {} (Zv (Zc 2 [] [(11,.b (r1 != 0))] {} (Zb rfl (TC.cond (r1 != 0) rfl Kr (fun h1=>?_) (fun h1=>?_))))))))))))
 ·exact Ze (Zc 3 [] [(4,.i 0),(5,.i r1)] {} (Zb rfl (TC.ret (Zq (TE.ret [] (.tuple #[.i 0,.i r1]) {} (by unfold Qm;refine eS (a:=(0,r1)) (fun (z:Int×Int)=>(.tuple #[.i z.1,.i z.2]:Value)) ?_;subst hr1;exact Zk h1 (rfl)))))))
 ·have j4:=(Jb h1)
  refine ZI (Zc 3 [] [(13,.slice A_costs qa.length qe),(14,.i qb),(15,.slice A_costs qa.length qe)] {} (TL.c 16 (QJ qa) (fun r2=>.i r2) (fun w hM=>G6 A_costs qe qa qf w (zk.sat hM) jk (fun s hs=>(zg s hs).sat hM) qm) {} (fun r2 hr2=>TL.rw 16 (.i r2) (.i ((r2.toNat:Nat):Int)) Kr (int_eq (bN (by (try have kg_:=B5 hr1 h1);(try have kc_:=kg_.c1);(try have kw_:=Xp hr2);exact sd)).symm) (TL.on (Γ:=AN) (sV (Instr.makeSlice 119 (.i ((r2.toNat:Nat):Int)) (.i ((r2.toNat:Nat):Int)))) 17 (fun g=>.slice g.1 (List.replicate r2.toNat false).length g.2) (fun g=>Ow g.1 g.2 4 1 ((List.replicate r2.toNat false).map bc)) (V0 (P:=Tryz.prog) (c:=bc) (t:=119) (e:=4) (sz:=1) (bytes:=1) false .i64 .i64 r2.toNat Kr Kr (by (try have kg_:=B5 hr1 h1);(try have kc_:=kg_.c1);(try have kw_:=Xp hr2);exact sd) (by (try have kg_:=B5 hr1 h1);(try have kc_:=kg_.c1);(try have kw_:=Xp hr2);exact sd)) {} ?_))))
  rintro⟨A,c⟩
  exact TL.c 18 (ZM qa qb 0 (List.replicate r2.toNat false)) (fun r3=>.i r3) (fun w hM=>Uh A_costs qe qa qf qb 0 A c (List.replicate r2.toNat false) w (zk.sat hM) jk (fun s hs=>(zg s hs).sat hM) qm (hM.rd_at 0 rfl) (hM.le_at 0 rfl) (B5 hr1 h1) (by omega) (by have kw_:=Xp hr2;rw[bL];omega)) {} (fun r3 hr3=>Zc 8 [] [(4,.i r3),(5,.i 0)] {} (Zb rfl (TC.ret (TE.ret [] (.tuple #[.i r3,.i 0]) {} (by unfold Qm;refine eS (a:=(r3,0)) (fun (z:Int×Int)=>(.tuple #[.i z.1,.i z.2]:Value)) ?_;subst hr1 hr2 hr3;exact Zd h1 (rfl))))))
set_option maxHeartbeats 4000000 in
theorem Fa (A_costs:Option Addr) (qe:Nat) (qa:List (List Int)) (qf:List (Sl Int)) (qb:Int) (w:World) (zk:Rd w 1 A_costs (qf.map Sl.c)) (jk:qa.length≤qe) (zg:∀ s∈qf,s.rd w 1 ic) (qm:qa=qf.map Sl.l):Calls Tryz.prog 47 #[.slice A_costs qa.length qe,.int .i64 qb] w (JD (Γ:=(Option Addr×Nat)) (cx w) (fun g=>.tuple #[.slice g.1 ((XF qa qb).1.length) g.2,.int .i64 ((XF qa qb).2.1),.int .i64 ((XF qa qb).2.2)]) (fun g=>[.inr (Own g.1 g.2 3 1 (((XF qa qb).1).map ic))])):=by
 have vi:=zk.short;rw[← KO qm] at vi
 refine Zo (vs:=[.slice A_costs qa.length qe,.i qb]) (w:=w) Tryz.func47 rfl Tryz.ntmps47 rfl (Ze (Zc 3 [] [(4,.slice none 0 0),(5,.i 0),(6,.i 0)] {} (Zv (Zc 2 [] [(18,.slice A_costs qa.length qe),(19,.i qb)] {} (TL.c 20 (Qm qa qb) (fun r1=>.tuple #[.i r1.1,.i r1.2]) (fun w hM=>Dw A_costs qe qa qf qb w (zk.sat hM) jk (fun s hs=>(zg s hs).sat hM) qm) {} (fun r1 hr1=>Zc 8 [] [(7,.i r1.1),(8,.i r1.2)] {} (Zz (Ze (Zc 2 [] [(24,.b (r1.2 != 0))] {} (Zb rfl (TC.cond (r1.2 != 0) rfl Kr (fun h1=>?_) (fun h1=>?_))))))))))))
 ·refine Ze (Zc 4 [] [(4,.slice none 0 0),(5,.i 0),(6,.i r1.2)] {} (Zb rfl (TC.ret (Zq ?_))))
  have e:XF qa qb=([],0,r1.2):=by subst hr1;unfold XF;exact Zk h1 (rfl)
  refine Yp [Ow none 0 3 1 (([]:List Int).map ic)] (fun _ hM=>hM.emptyrow none 3 1) ?_
  rw[e]
  exact ZN (.inl rfl) (none,0) [] (.tuple #[.slice none 0 0,.i 0,.i r1.2]) {} rfl (fun _ hM=>hM.sub (sb 1))
 ·have j4:=(Jb h1)
  refine ZI (Zc 1 [] [(26,.slice A_costs qa.length qe)] {} (TL.c 27 (QJ qa) (fun r2=>.i r2) (fun w hM=>G6 A_costs qe qa qf w (zk.sat hM) jk (fun s hs=>(zg s hs).sat hM) qm) {} (fun r2 hr2=>TL.rw 27 (.i r2) (.i ((r2.toNat:Nat):Int)) Kr (int_eq (bN (by (try have kg_:=X4 hr1 h1);(try have kc_:=kg_.c1);(try have kn_:=kg_.n1);(try have kw_:=Xp hr2);(try have kx_:=YR kg_ hx);exact sd)).symm) (TL.on (Γ:=AN) (sV (Instr.makeSlice 119 (.i ((r2.toNat:Nat):Int)) (.i ((r2.toNat:Nat):Int)))) 28 (fun g=>.slice g.1 (List.replicate r2.toNat false).length g.2) (fun g=>Ow g.1 g.2 4 1 ((List.replicate r2.toNat false).map bc)) (V0 (P:=Tryz.prog) (c:=bc) (t:=119) (e:=4) (sz:=1) (bytes:=1) false .i64 .i64 r2.toNat Kr Kr (by (try have kg_:=X4 hr1 h1);(try have kc_:=kg_.c1);(try have kn_:=kg_.n1);(try have kw_:=Xp hr2);(try have kx_:=YR kg_ hx);exact sd) (by (try have kg_:=X4 hr1 h1);(try have kc_:=kg_.c1);(try have kn_:=kg_.n1);(try have kw_:=Xp hr2);(try have kx_:=YR kg_ hx);exact sd)) {} ?_))))
  rintro⟨A,c⟩
  refine Zc 4 [] [(9,.slice A ((List.replicate r2.toNat false).length) c)] {} (Zv (Zc 2 [] [(10,.i r1.1)] {} (Zv (Zc 1 [] [(11,.slice none 0 0)] {} (Zz (Ze (Zc 3 [] [(30,.slice A_costs qa.length qe),(31,.i (qa.length:Int)),(32,.i 0)] {} (Zb rfl (QS [Ow none 0 3 1 (([]:List Int).map ic),Ow A c 4 1 ((List.replicate r2.toNat false).map bc)] (fun _ hM=>hM.emptyrow none 3 1) ?_)))))))))
  obtain⟨R4,hR⟩:∃ R,R=Jq qa qb qa 0 r1.1 ([]:List Int) (List.replicate r2.toNat false):=⟨_,rfl⟩
  refine TC.cut (S:=(List Int)×(List Bool)×(Option Addr)×Nat) (fun (ql,wx,A_out_2,qk)=>[(7,.i r1.1),(11,.slice A_out_2 ql.length qk)]) (fun (ql,wx,A_out_2,qk)=>[Ow A_out_2 qk 3 1 (ql.map ic)]) (fun (ql,wx,A_out_2,qk)=>R4=(ql,wx)∧ql.length≤qa.length∧wx.length=r2.toNat) ?_ ?_
  ·refine TC.block (XB (X:=Nat×Int×(List Int)×(List Bool)×(Option Addr)×Nat) (fun (k,left,out,taken,A_out,qg)=>[(0,.slice A_costs qa.length qe),(1,.i qb),(7,.i r1.1),(9,.slice A taken.length c),(10,.i left),(11,.slice A_out out.length qg),(30,.slice A_costs qa.length qe),(31,.i (qa.length:Int)),(32,.i (k:Int))]) (fun (k,left,out,taken,A_out,qg)=>[Ow A_out qg 3 1 (out.map ic),Ow A c 4 1 (taken.map bc)]) (fun (k,left,out,taken,A_out,qg)=>qa.length-k) (fun (k,left,out,taken,A_out,qg)=>k≤qa.length∧R4=Jq qa qb (qa.drop k) k left out taken∧out.length≤k∧taken.length=r2.toNat) ?_ (0,r1.1,([]:List Int),(List.replicate r2.toNat false),none,0) ⟨aN _,hR,sz,sz⟩ Kr (sb 3))
   rintro⟨k,left,out,taken,A_out,qg⟩ ⟨hk,hI,wo,cg⟩
   refine Ze (Zc 1 [] [(33,.b (decide ((k:Int)<(qa.length:Int))))] {} (Zz (TC.cond (decide ((k:Int)<(qa.length:Int))) rfl Kr (fun h2=>?_) (fun h2=>?_))))
   ·have hlt:=ltN h2
    obtain⟨x,hx⟩:=elN hlt
    have hd:=drop_at hx
    refine Yg (TC.seq (TC.block (Ze (Zc 1 [] [(34,.i (k:Int))] {} (TL.v (sV (Instr.indexAt 114 (.slice A_costs qa.length qe) (.i (k:Int)))) 35 (.pointer (some (Ix A_costs (k*1)))) (fun w hM=>Zy (zk.sat hM) (KO qm) Kr (by (try have kg_:=X4 hr1 h1);(try have kc_:=kg_.c1);(try have kn_:=kg_.n1);(try have kw_:=Xp hr2);(try have kx_:=YR kg_ hx);exact sd) (by (try have kg_:=X4 hr1 h1);(try have kc_:=kg_.c1);(try have kn_:=kg_.n1);(try have kw_:=Xp hr2);(try have kx_:=YR kg_ hx);exact sd)) {} ?_)))))
    have w8:=(KT (Ko zg k) (UJ qm hx)).short;rw[aF] at w8
    refine TL.v (sV (Instr.loadAt 22 (.pointer (some (Ix A_costs (k*1)))))) 36 (.slice ((qf[k]?.getD Sl.zero).A) x.length ((qf[k]?.getD Sl.zero).cap)) (fun w hM=>(by have h:=Z3 (P:=Tryz.prog) (T:=22) (off:=0) (i:=k) (.slice (qf[k]?.getD Sl.zero).A (qf[k]?.getD Sl.zero).l.length (qf[k]?.getD Sl.zero).cap) (zk.sat hM) (ZR (getD_at _ _ Sl.zero (WP qm (aK.1 hx).1))) Kr Kr;rw[(UJ qm hx)] at h;exact h)) {} ?_
    refine Zc 5 [] [(12,.i (k:Int)),(13,.slice ((qf[k]?.getD Sl.zero).A) x.length ((qf[k]?.getD Sl.zero).cap))] {} (Zv (Zc 1 [] [(14,.i (-1))] {} (Zz (Ze (Zc 6 [] [(37,.i qb),(38,.slice A_costs qa.length qe),(39,.i qb),(41,.i (w64 ((k:Int)+1))),(42,.slice A taken.length c)] {} (TL.c 43 (ZM qa qb (w64 ((k:Int)+1)) taken) (fun r3=>.i r3) (fun w hM=>Uh A_costs qe qa qf qb (w64 ((k:Int)+1)) A c taken w (zk.sat hM) jk (fun s hs=>(zg s hs).sat hM) qm (hM.rd_at 1 rfl) (hM.le_at 1 rfl) (X4 hr1 h1) (by (try have kg_:=X4 hr1 h1);(try have kc_:=kg_.c1);(try have kn_:=kg_.n1);(try have kw_:=Xp hr2);(try have kx_:=YR kg_ hx);exact sg) (by (try have kg_:=X4 hr1 h1);(try have kc_:=kg_.c1);(try have kn_:=kg_.n1);(try have kw_:=Xp hr2);(try have kx_:=YR kg_ hx);exact sg)) {} (fun r3 hr3=>Zc 10 [] [(46,.b ((w64 (qb+r3))==left))] {} (Zb rfl (TC.cond ((w64 (qb+r3))==left) rfl Kr (fun h3=>?_) (fun h3=>?_))))))))))
    ·have wm:=(Xf h3)
     refine TC.region (Zc 4 [] [(10,.i (w64 (left-qb)))] {} (Zb rfl (TC.region (Zc 2 [] [(86,.slice A_out out.length qg),(87,.i (-1))] {} (ZH 88 (fun b1=>.slice (Pa b1) 1 1) (fun b1=>Bk b1 #[.i (-1)] 3) (fun b1=>{}) (fun b1=>TL.os (Γ:=AN) (sV (Builtin.append_ #[22,22] 22 #[.slice A_out out.length qg,.slice (Pa b1) 1 1])) 89 (fun g=>.slice g.1 (out++([(-1)])).length g.2) 1 (fun g=>Ow g.1 g.2 3 1 ((out++([(-1)])).map ic)) (Jc (bytes:=8) 22 1 ([(-1)]) Kr rfl rfl SJ rfl (fun w hM=>(Rd.lit hM 0 _ rfl Kr Kr Kr)) rfl (by (try have kg_:=X4 hr1 h1);(try have kc_:=kg_.c1);(try have kn_:=kg_.n1);(try have kw_:=Xp hr2);(try have kx_:=YR kg_ hx);exact sa)) {} ?_))))))
     rintro⟨A_2,c_2⟩
     exact Zc 5 [] [(11,.slice A_2 ((out++([(-1)])).length) c_2)] {} (Z2 rfl (Yr (Z4 (TC.region (Zc 2 [] [(32,.i (w64 ((k:Int)+1)))] {} (Z2 rfl (TE.rw 32 (.i (w64 ((k:Int)+1))) (.i ((k+1:Nat):Int)) Kr (ZT k (by (try have kg_:=X4 hr1 h1);(try have kc_:=kg_.c1);(try have kn_:=kg_.n1);(try have kw_:=Xp hr2);(try have kx_:=YR kg_ hx);omega)) (Z7 (x:=(k,left,out,taken,A_out,qg)) (k+1,w64 (left-qb),(out++([(-1)])),taken,A_2,c_2) ⟨by omega,hI.trans (by subst hr1 hr2 hr3;rw[hd];exact Zk h3 (rfl)),(by (try have kg_:=X4 hr1 h1);(try have kc_:=kg_.c1);(try have kn_:=kg_.n1);(try have kw_:=Xp hr2);(try have kx_:=YR kg_ hx);exact sl),(by (try have kg_:=X4 hr1 h1);(try have kc_:=kg_.c1);(try have kn_:=kg_.n1);(try have kw_:=Xp hr2);(try have kx_:=YR kg_ hx);exact sl)⟩ (mN hlt) Kr (sb 6)))))))))
    ·have wm:=(Yh h3)
     refine Ze (Zc 3 [] [(50,.slice ((qf[k]?.getD Sl.zero).A) x.length ((qf[k]?.getD Sl.zero).cap)),(51,.i (x.length:Int)),(52,.i 0)] {} (Zb rfl ?_))
     obtain⟨R5,x9⟩:∃ R,R=QQ qa qb k x 0 left (-1) taken:=⟨_,rfl⟩
     refine TC.cut (S:=Int×Int×(List Bool)) (fun (k5,xp,j7)=>[(0,.slice A_costs qa.length qe),(1,.i qb),(7,.i r1.1),(9,.slice A j7.length c),(10,.i k5),(11,.slice A_out out.length qg),(14,.i xp),(30,.slice A_costs qa.length qe),(31,.i (qa.length:Int)),(32,.i (k:Int))]) (fun (k5,xp,j7)=>[Ow A_out qg 3 1 (out.map ic),Ow A c 4 1 (j7.map bc)]) (fun (k5,xp,j7)=>R5=(k5,xp,j7)∧j7.length=taken.length) ?_ ?_
     ·refine TC.block (XB (X:=Nat×Int×Int×(List Bool)) (fun (k_2,zy,choice,qn)=>[(0,.slice A_costs qa.length qe),(1,.i qb),(7,.i r1.1),(9,.slice A qn.length c),(10,.i zy),(11,.slice A_out out.length qg),(12,.i (k:Int)),(14,.i choice),(30,.slice A_costs qa.length qe),(31,.i (qa.length:Int)),(32,.i (k:Int)),(50,.slice ((qf[k]?.getD Sl.zero).A) x.length ((qf[k]?.getD Sl.zero).cap)),(51,.i (x.length:Int)),(52,.i (k_2:Int))]) (fun (k_2,zy,choice,qn)=>[Ow A_out qg 3 1 (out.map ic),Ow A c 4 1 (qn.map bc)]) (fun (k_2,zy,choice,qn)=>x.length-k_2) (fun (k_2,zy,choice,qn)=>k_2≤x.length∧R5=QQ qa qb k (x.drop k_2) k_2 zy choice qn∧qn.length=taken.length) ?_ (0,left,(-1),taken) ⟨aN _,x9,sz⟩ Kr (sb 3))
      rintro⟨k_2,zy,choice,qn⟩ ⟨y9,xg,rp⟩
      refine Ze (Zc 1 [] [(53,.b (decide ((k_2:Int)<(x.length:Int))))] {} (Zz (TC.cond (decide ((k_2:Int)<(x.length:Int))) rfl Kr (fun h4=>?_) (fun h4=>?_))))
      ·have zp:=ltN h4
       obtain⟨x_2,xw⟩:=elN zp
       have zr:=drop_at xw
       refine Yg (TC.seq (TC.block (Ze (Zc 1 [] [(54,.i (k_2:Int))] {} (TL.v (sV (Instr.indexAt 22 (.slice ((qf[k]?.getD Sl.zero).A) x.length ((qf[k]?.getD Sl.zero).cap)) (.i (k_2:Int)))) 55 (.pointer (some ((((qf[k]?.getD Sl.zero).A).getD Y4).add (k_2*1)))) (fun w hM=>Zy (KT ((Ko zg k).sat hM) (UJ qm hx)) (by simp) Kr (by (try have kg_:=X4 hr1 h1);(try have kc_:=kg_.c1);(try have kn_:=kg_.n1);(try have kw_:=Xp hr2);(try have kx_:=YR kg_ hx);exact sd) (by (try have kg_:=X4 hr1 h1);(try have kc_:=kg_.c1);(try have kn_:=kg_.n1);(try have kw_:=Xp hr2);(try have kx_:=YR kg_ hx);exact sd)) {} (TL.v (sV (Instr.loadAt 3 (.pointer (some ((((qf[k]?.getD Sl.zero).A).getD Y4).add (k_2*1)))))) 56 (.i x_2) (fun w hM=>Z3 (off:=0) (i:=k_2) (.i x_2) (KT ((Ko zg k).sat hM) (UJ qm hx)) (ZR xw) Kr Kr) {} (Zc 5 [] [(15,.i (k_2:Int)),(16,.i x_2)] {} (Zz (Ze (Zc 3 [] [(59,.b (decide (x_2<0)))] {} (Yo 59 (decide (x_2<0)) Kr (fun h5=>?_) (fun h5=>?_))))))))))))
       ·have yr:=(Ys h5)
        refine Zc 8 [] [(64,.b true)] {} (Zb rfl (Xo rfl Kr (TC.exit (Yc (Z1 ?_)))))
        exact Z4 (TC.region (Zc 2 [] [(52,.i (w64 ((k_2:Int)+1)))] {} (Z2 rfl (TE.rw 52 (.i (w64 ((k_2:Int)+1))) (.i ((k_2+1:Nat):Int)) Kr (ZT k_2 (by (try have kg_:=X4 hr1 h1);(try have kc_:=kg_.c1);(try have kn_:=kg_.n1);(try have kw_:=Xp hr2);(try have kx_:=YR kg_ hx);omega)) (Z7 (x:=(k_2,zy,choice,qn)) (k_2+1,zy,choice,qn) ⟨by omega,xg.trans (by subst hr1 hr2 hr3;rw[zr];exact Zk h5 (rfl)),(by (try have kg_:=X4 hr1 h1);(try have kc_:=kg_.c1);(try have kn_:=kg_.n1);(try have kw_:=Xp hr2);(try have kx_:=YR kg_ hx);exact sl)⟩ (mN zp) Kr (sb 3))))))
       ·have yr:=(Zt h5)
        refine Zc 5 [] [(60,.slice A qn.length c),(61,.i (k_2:Int))] {} (TL.v (sV (Instr.indexAt 119 (.slice A qn.length c) (.i (k_2:Int)))) 62 (.pointer (some (Ix A (k_2*1)))) (fun w hM=>Zy (hM.rd_at 1 rfl) (by simp) Kr (by (try have kg_:=X4 hr1 h1);(try have kc_:=kg_.c1);(try have kn_:=kg_.n1);(try have kw_:=Xp hr2);(try have kx_:=YR kg_ hx);exact sd) (by (try have kg_:=X4 hr1 h1);(try have kc_:=kg_.c1);(try have kn_:=kg_.n1);(try have kw_:=Xp hr2);(try have kx_:=YR kg_ hx);exact sd)) {} (TL.v (sV (Instr.loadAt 4 (.pointer (some (Ix A (k_2*1)))))) 63 (.b ((qn[k_2]?.getD false))) (fun w hM=>Z3 (off:=0) (i:=k_2) (.b ((qn[k_2]?.getD false))) (hM.rd_at 1 rfl) (ZR (getD_at _ _ false (by (try have kg_:=X4 hr1 h1);(try have kc_:=kg_.c1);(try have kn_:=kg_.n1);(try have kw_:=Xp hr2);(try have kx_:=YR kg_ hx);exact sd))) Kr Kr) {} (Zc 8 [] [(64,.b ((qn[k_2]?.getD false)))] {} (Zb rfl (TC.cond ((qn[k_2]?.getD false)) rfl Kr (fun h6=>?_) (fun h6=>?_))))))
        ·refine TC.exit (Yc (Z1 ?_))
         exact Z4 (TC.region (Zc 2 [] [(52,.i (w64 ((k_2:Int)+1)))] {} (Z2 rfl (TE.rw 52 (.i (w64 ((k_2:Int)+1))) (.i ((k_2+1:Nat):Int)) Kr (ZT k_2 (by (try have kg_:=X4 hr1 h1);(try have kc_:=kg_.c1);(try have kn_:=kg_.n1);(try have kw_:=Xp hr2);(try have kx_:=YR kg_ hx);omega)) (Z7 (x:=(k_2,zy,choice,qn)) (k_2+1,zy,choice,qn) ⟨by omega,xg.trans (by subst hr1 hr2 hr3;rw[zr];exact Zd h5 (Zk h6 (rfl))),(by (try have kg_:=X4 hr1 h1);(try have kc_:=kg_.c1);(try have kn_:=kg_.n1);(try have kw_:=Xp hr2);(try have kx_:=YR kg_ hx);exact sl)⟩ (mN zp) Kr (sb 3))))))
        ·refine ZI (Zc 2 [] [(65,.slice A qn.length c),(66,.i (k_2:Int))] {} (TL.v (sV (Instr.indexAt 119 (.slice A qn.length c) (.i (k_2:Int)))) 67 (.pointer (some (Ix A (k_2*1)))) (fun w hM=>Zy (hM.rd_at 1 rfl) (by simp) Kr (by (try have kg_:=X4 hr1 h1);(try have kc_:=kg_.c1);(try have kn_:=kg_.n1);(try have kw_:=Xp hr2);(try have kx_:=YR kg_ hx);exact sd) (by (try have kg_:=X4 hr1 h1);(try have kc_:=kg_.c1);(try have kn_:=kg_.n1);(try have kw_:=Xp hr2);(try have kx_:=YR kg_ hx);exact sd)) {} (Uk (Γ:=Unit) (sU (Instr.storeAt 4 (.pointer (some ((Ix A (k_2*1)).add 0))) (.b true))) 1 (Ow A c 4 1 ((qn.set k_2 true).map bc)) (X5 (n:=1) (off:=0) (.b true) 1 ((qn.set k_2 true).map bc) rfl (ZR (getD_at _ _ false (by (try have kg_:=X4 hr1 h1);(try have kc_:=kg_.c1);(try have kn_:=kg_.n1);(try have kw_:=Xp hr2);(try have kx_:=YR kg_ hx);exact sd))) Kr Kr Kr Kr (Qn Kr)) Kr (TL.rw 9 (.slice A qn.length c) (.slice A ((qn.set k_2 true).length) c) Kr (by simp only[aQ]) (Zz (Ze (Zc 6 [] [(68,.i x_2),(69,.slice A_costs qa.length qe),(70,.i qb),(72,.i (w64 ((k:Int)+1))),(73,.slice A ((qn.set k_2 true).length) c)] {} (TL.c 74 (ZM qa qb (w64 ((k:Int)+1)) (qn.set k_2 true)) (fun r4=>.i r4) (fun w hM=>Uh A_costs qe qa qf qb (w64 ((k:Int)+1)) A c (qn.set k_2 true) w (zk.sat hM) jk (fun s hs=>(zg s hs).sat hM) qm (hM.rd_at 1 rfl) (hM.le_at 1 rfl) (X4 hr1 h1) (by (try have kg_:=X4 hr1 h1);(try have kc_:=kg_.c1);(try have kn_:=kg_.n1);(try have kw_:=Xp hr2);(try have kx_:=YR kg_ hx);exact sg) (by (try have kg_:=X4 hr1 h1);(try have kc_:=kg_.c1);(try have kn_:=kg_.n1);(try have kw_:=Xp hr2);(try have kx_:=YR kg_ hx);exact sg)) {} (fun r4 hr4=>Zc 10 [] [(77,.b ((w64 (x_2+r4))==zy))] {} (Zb rfl (TC.cond ((w64 (x_2+r4))==zy) rfl Kr (fun h7=>?_) (fun h7=>?_))))))))))))
         ·have ym:=(Xf h7)
          refine Ze (Zc 2 [] [(14,.i (k_2:Int))] {} (Zv (Zc 4 [] [(10,.i (w64 (zy-x_2)))] {} (Zb rfl (TC.exit (Yc (Ww rfl (Yc (Yc (Z1 ?_))))))))))
          exact TE.cut (w64 (zy-x_2),(k_2:Int),(qn.set k_2 true)) (⟨xg.trans (by subst hr1 hr2 hr3 hr4;rw[zr];exact Zd h5 (Zd h6 (Zk h7 (rfl)))),(by (try have kg_:=X4 hr1 h1);(try have kc_:=kg_.c1);(try have kn_:=kg_.n1);(try have kw_:=Xp hr2);(try have kx_:=YR kg_ hx);exact sl)⟩) Kr (sb 3)
         ·have ym:=(Yh h7)
          exact Yg (TC.region (Zc 2 [] [(82,.slice A ((qn.set k_2 true).length) c),(83,.i (k_2:Int))] {} (TL.v (sV (Instr.indexAt 119 (.slice A ((qn.set k_2 true).length) c) (.i (k_2:Int)))) 84 (.pointer (some (Ix A (k_2*1)))) (fun w hM=>Zy (hM.rd_at 1 rfl) (by simp) Kr (by (try have kg_:=X4 hr1 h1);(try have kc_:=kg_.c1);(try have kn_:=kg_.n1);(try have kw_:=Xp hr2);(try have kx_:=YR kg_ hx);exact sd) (by (try have kg_:=X4 hr1 h1);(try have kc_:=kg_.c1);(try have kn_:=kg_.n1);(try have kw_:=Xp hr2);(try have kx_:=YR kg_ hx);exact sd)) {} (Uk (Γ:=Unit) (sU (Instr.storeAt 4 (.pointer (some ((Ix A (k_2*1)).add 0))) (.b false))) 1 (Ow A c 4 1 (((qn.set k_2 true).set k_2 false).map bc)) (X5 (n:=1) (off:=0) (.b false) 1 (((qn.set k_2 true).set k_2 false).map bc) rfl (ZR (getD_at _ _ false (by (try have kg_:=X4 hr1 h1);(try have kc_:=kg_.c1);(try have kn_:=kg_.n1);(try have kw_:=Xp hr2);(try have kx_:=YR kg_ hx);exact sd))) Kr Kr Kr Kr (Qn Kr)) Kr (TL.rw 9 (.slice A ((qn.set k_2 true).length) c) (.slice A (((qn.set k_2 true).set k_2 false).length) c) Kr (by simp only[aQ]) (Z2 rfl (Yr (Z4 (TC.region (Zc 2 [] [(52,.i (w64 ((k_2:Int)+1)))] {} (Z2 rfl (TE.rw 52 (.i (w64 ((k_2:Int)+1))) (.i ((k_2+1:Nat):Int)) Kr (ZT k_2 (by (try have kg_:=X4 hr1 h1);(try have kc_:=kg_.c1);(try have kn_:=kg_.n1);(try have kw_:=Xp hr2);(try have kx_:=YR kg_ hx);omega)) (Z7 (x:=(k_2,zy,choice,qn)) (k_2+1,zy,choice,((qn.set k_2 true).set k_2 false)) ⟨by omega,xg.trans (by subst hr1 hr2 hr3 hr4;rw[zr];exact Zd h5 (Zd h6 (Zd h7 (rfl)))),(by (try have kg_:=X4 hr1 h1);(try have kc_:=kg_.c1);(try have kn_:=kg_.n1);(try have kw_:=Xp hr2);(try have kx_:=YR kg_ hx);exact sl)⟩ (mN zp) Kr (sb 3))))))))))))))
      ·have zr:=QE h4
       refine TC.exit (Yc (Yc (Z1 ?_)))
       exact TE.cut (zy,choice,qn) (⟨xg.trans (by subst hr1 hr2 hr3;rw[zr];exact rfl),(by (try have kg_:=X4 hr1 h1);(try have kc_:=kg_.c1);(try have kn_:=kg_.n1);(try have kw_:=Xp hr2);(try have kx_:=YR kg_ hx);exact sl)⟩) Kr (sb 3)
     ·rintro⟨k5,xp,j7⟩ ⟨va,rq⟩
      refine Z4 (TC.region (Zc 2 [] [(86,.slice A_out out.length qg),(87,.i xp)] {} (ZH 88 (fun b2=>.slice (Pa b2) 1 1) (fun b2=>Bk b2 #[.i xp] 3) (fun b2=>{}) (fun b2=>TL.os (Γ:=AN) (sV (Builtin.append_ #[22,22] 22 #[.slice A_out out.length qg,.slice (Pa b2) 1 1])) 89 (fun g=>.slice g.1 (out++([xp])).length g.2) 1 (fun g=>Ow g.1 g.2 3 1 ((out++([xp])).map ic)) (Jc (bytes:=8) 22 1 ([xp]) Kr rfl rfl SJ rfl (fun w hM=>(Rd.lit hM 0 _ rfl Kr Kr Kr)) rfl (by (try have kg_:=X4 hr1 h1);(try have kc_:=kg_.c1);(try have kn_:=kg_.n1);(try have kw_:=Xp hr2);(try have kx_:=YR kg_ hx);exact sa)) {} ?_))))
      rintro⟨A_3,c_3⟩
      exact Zc 5 [] [(11,.slice A_3 ((out++([xp])).length) c_3)] {} (Z2 rfl (Yr (Z4 (TC.region (Zc 2 [] [(32,.i (w64 ((k:Int)+1)))] {} (Z2 rfl (TE.rw 32 (.i (w64 ((k:Int)+1))) (.i ((k+1:Nat):Int)) Kr (ZT k (by (try have kg_:=X4 hr1 h1);(try have kc_:=kg_.c1);(try have kn_:=kg_.n1);(try have kw_:=Xp hr2);(try have kx_:=YR kg_ hx);omega)) (Z7 (x:=(k,left,out,taken,A_out,qg)) (k+1,k5,(out++([xp])),j7,A_3,c_3) ⟨by omega,hI.trans (by subst hr1 hr2 hr3;rw[hd];exact Zd h3 (Y5 (x9.symm.trans va) (rfl))),(by (try have kg_:=X4 hr1 h1);(try have kc_:=kg_.c1);(try have kn_:=kg_.n1);(try have kw_:=Xp hr2);(try have kx_:=YR kg_ hx);exact sl),(by (try have kg_:=X4 hr1 h1);(try have kc_:=kg_.c1);(try have kn_:=kg_.n1);(try have kw_:=Xp hr2);(try have kx_:=YR kg_ hx);exact sl)⟩ (mN hlt) Kr (sb 6)))))))))
   ·have hd:=QE h2
    refine TC.exit (Yc (Yc (Z1 ?_)))
    exact TE.cut (out,taken,A_out,qg) (⟨hI.trans (by subst hr1 hr2;rw[hd];exact rfl),(by (try have kg_:=X4 hr1 h1);(try have kc_:=kg_.c1);(try have kn_:=kg_.n1);(try have kw_:=Xp hr2);(try have kx_:=YR kg_ hx);exact sl),(by (try have kg_:=X4 hr1 h1);(try have kc_:=kg_.c1);(try have kn_:=kg_.n1);(try have kw_:=Xp hr2);(try have kx_:=YR kg_ hx);exact sl)⟩) Kr (sb 1)
  ·rintro⟨ql,wx,A_out_2,qk⟩ ⟨hJ,vu,rr⟩
   refine YZ (Zc 5 [] [(4,.slice A_out_2 ql.length qk),(5,.i r1.1),(6,.i 0)] {} (Zb rfl (TC.ret ?_)))
   have e:XF qa qb=(ql,r1.1,0):=by subst hr1 hr2;unfold XF;exact Zd h1 (Y5 (hR.symm.trans hJ) (rfl))
   rw[e]
   exact ZN (.inl rfl) (A_out_2,qk) [] (.tuple #[.slice A_out_2 ql.length qk,.i r1.1,.i 0]) {} rfl (fun _ hM=>hM.sub (sb 1))
end Go.Sky
end
section
namespace Go.Sky
open Go Go.Eng
section
variable (c0:Int) (c1:List Za)
theorem CW:∀ (l:List followed) (k:Nat),(X2 c0 c1 l k=.inl ()∧∀ x∈l,ZG x c0 c1=false) ∨
  ∃ j:Nat,X2 c0 c1 l k=.inr ((k+j:Nat):Int)∧(∀ x∈l.take j,ZG x c0 c1=false)∧∃ x,l[j]?=some x∧ZG x c0 c1=true
 | [],k=>.inl ⟨rfl,by simp⟩
 | x::xs,k=>by
  unfold X2
  simp only
  cases hx:ZG x c0 c1 with
  | true=>exact .inr ⟨0,rfl,by simp,x,rfl,hx⟩
  | false =>
   rcases CW xs (k+1) with ⟨h,h2⟩|⟨j,h,h2,y,h3,h4⟩
   ·refine .inl ⟨h,fun y hy=>?_⟩
    rcases bA.1 hy with rfl|hy
    ·exact hx
    ·exact h2 y hy
   ·refine .inr ⟨j+1,?_,fun y hy=>?_,y,?_,h4⟩
    ·rw[cond_false,h];congr 2;omega
    ·rw[fS] at hy
     rcases bA.1 hy with rfl|hy
     ·exact hx
     ·exact h2 y hy
    ·rw[cH];exact h3
theorem HG {α:Type} {l:List α} {j:Nat} {x:α} (h:l[j]?=some x):l.take (j+1)=l.take j ++ [x]:=by
 rw[List.take_add_one,h];rfl
theorem L1 {α:Type} {l:List α} {a:Nat} (x:α) (h:a<l.length):(l.set a x).take (a+1)=l.take a ++ [x]:=by
 rw[HG (x:=x) (by rw[fE h]),List.take_set_of_le (aR a)]
theorem RO (s:List followed) (n:Nat) (hs:s.length<1000000000000):∀ (m k a:Nat) (s2:List followed),s.length=n+1+k+m→s2.length=s.length→a≤n+1+k→s2.drop (n+1+k)=s.drop (n+1+k) →
  s2.take a=(s.take (n+1+k)).filter (fun x=>!ZG x c0 c1) →
  ∃ (b:Nat) (s3:List followed),Qp c0 c1 (n:Int) m k (a:Int) s2=((b:Int),s3)∧b≤s.length∧s3.length=s.length∧s3.take b=s.filter (fun x=>!ZG x c0 c1)
 | 0,k,a,s2,h1,h2,h3,_,h5=>by
  refine⟨a,s2,rfl,by omega,h2,?_⟩
  rw[h5,dQ (by omega)]
 | m+1,k,a,s2,h1,h2,h3,h4,h5=>by
  have hj:n+1+k<s.length:=by omega
  have ei:(((n:Int)+1)+(k:Int)).toNat=n+1+k:=by omega
  have hx:s[n+1+k]?=some (s[n+1+k]'hj):=aS hj
  generalize s[n+1+k]'hj=x at hx
  have hx2:s2[n+1+k]?=some x:=by
   have:=congrArg (fun l=>l[0]?) h4
   simp only[cV,bI] at this
   rw[this,hx]
  have hd:s2.drop (n+1+(k+1))=s.drop (n+1+(k+1)):=by
   have:=congrArg (fun l=>l.drop 1) h4
   simp only[eL] at this
   rw[show n+1+(k+1)=n+1+k+1 by omega]
   exact this
  have ht:s.take (n+1+(k+1))=s.take (n+1+k) ++ [x]:=by
   rw[show n+1+(k+1)=n+1+k+1 by omega];exact HG hx
  unfold Qp
  simp only
  rw[ei,hx2,cX]
  cases hg:ZG x c0 c1 with
  | true =>
   rw[dK,cond_false]
   refine RO s n hs m (k+1) a s2 (by omega) h2 (by omega) hd ?_
   rw[h5,ht,gA]
   simp[hg]
  | false =>
   rw[eO,cond_true,Zu (by omega),show (a:Int)+1=((a+1:Nat):Int) by omega,aP]
   refine RO s n hs m (k+1) (a+1) (s2.set a x) (by omega) (by rw[aQ];exact h2) (by omega) ?_ ?_
   ·rw[List.drop_set_of_lt (by omega)];exact hd
   ·rw[L1 x (by omega),h5,ht,gA]
    simp[hg]
theorem TU (s:List followed) (hs:s.length<1000000000000):XQ s c0 c1=s.filter (fun x=>!ZG x c0 c1):=by
 unfold XQ QP
 rcases CW c0 c1 s 0 with ⟨h,h2⟩|⟨j,h,h2,y,h3,h4⟩
 ·rw[h]
  show s=_
  exact(List.filter_eq_self.2 (fun x hx=>by simp[h2 x hx])).symm
 ·rw[h,bB]
  have hj:j<s.length:=(aK.1 h3).1
  simp only[Sum.elim_inr]
  rw[show ((j:Int)==(-1))=false from beq_eq_false_iff_ne.2 (by omega),cond_false]
  obtain⟨b,s3,e,hb,hl,ht⟩:=RO c0 c1 s j hs (s.length-(j+1)) 0 j s (by omega) rfl (by omega) rfl (by
   rw[bI,HG h3,gA,List.filter_eq_self.2 (fun x hx=>by simp[h2 x hx])]
   simp[h4])
  rw[show ((s.length:Int)-((j:Int)+1)).toNat=s.length-(j+1) by omega,e]
  show (s3.take (b:Int).toNat++_).take (b:Int).toNat=_
  rw[aP,fL (by rw[bG];omega),gN,Nat.min_self,ht]
end
theorem L2 {t r:Zi} {time:Int} (hr:ZV t time=r) (h:t.all.length≤64):∃ now,r=⟨t.rules,t.all.filter (fun x=>!ZG x time now),t.next,t.last⟩:=by
 subst hr
 unfold ZV Xq
 simp only
 exact⟨_,by rw[TU _ _ _ (by omega)]⟩
theorem Oc {t r:Zi} {time:Int} (hr:ZV t time=r) (h:t.all.length≤64):r.all.length≤t.all.length:=by
 obtain⟨now,rfl⟩:=L2 hr h
 exact List.length_filter_le ..
end Go.Sky
namespace Go.Sky
open Go Go.Eng Go.Glue Go.Srt
def Sp (time:Int) (l:List Zm):Prop:=∀ s∈l,s.In∧s.Time=time
def Tr (time:Int) (l:List Track):Prop:=∀ t∈l,t.In∧t.Time=time
theorem L6 (time:Int):∀ (xs:List Zm) (k:Nat),(Xk time xs k=.inl ()∧Sp time xs)∨(∃ e,Xk time xs k=.inr e∧e≠0)∧¬ Sp time xs
 | [],_=>.inl ⟨rfl,fun _ h=>by cases h⟩
 | x::xs,k=>by
  unfold Xk
  simp only
  rcases VJ x with ⟨h1,h2⟩|⟨h1,h2⟩
  ·rw[h1,show ((0:Int) != 0)=false from rfl,cond_false]
   by_cases ht:x.Time=time
   ·rw[show (x.Time != time)=false by simpa using ht,cond_false]
    rcases L6 time xs (k+1) with ⟨h,h3⟩|⟨h,h3⟩
    ·refine .inl ⟨h,fun s hs=>?_⟩
     rcases bA.1 hs with rfl|hs
     ·exact⟨h2,ht⟩
     ·exact h3 s hs
    ·exact .inr ⟨h,fun hh=>h3 fun s hs=>hh s (aJ _ hs)⟩
   ·rw[show (x.Time != time)=true by simpa using ht,cond_true]
    exact .inr ⟨⟨12,rfl,by decide⟩,fun hh=>ht (hh x (aM ..)).2⟩
  ·rw[h1,show ((4:Int) != 0)=true from rfl,cond_true]
   exact .inr ⟨⟨4,rfl,by decide⟩,fun hh=>h2 (hh x (aM ..)).1⟩
theorem L8 {t:Zi} {l:List Zm} {time:Int}:Yb t l time=0↔l.length≤32∧(0≤time∧time≤200000)∧t.last<time∧Sp time l:=by
 unfold Yb
 simp only[Q8]
 by_cases h1:(l.length:Int)>32
 ·rw[if_pos (decide_eq_true h1)]
  exact⟨fun h=>(by cases h),fun h=>by omega⟩
 ·rw[if_neg (by simpa using h1)]
  by_cases h2:0≤time∧time≤200000
  ·rw[if_neg (by simp;omega)]
   by_cases h3:time≤t.last
   ·rw[if_pos (decide_eq_true h3)]
    exact⟨fun h=>(by cases h),fun h=>by omega⟩
   ·rw[if_neg (by simpa using h3)]
    rcases L6 time l 0 with ⟨h,h4⟩|⟨⟨e,h,he⟩,h4⟩
    ·rw[h]
     exact⟨fun _=>⟨by omega,h2,by omega,h4⟩,fun _=>rfl⟩
    ·rw[h]
     exact⟨fun hh=>absurd hh he,fun hh=>absurd hh.2.2.2 h4⟩
  ·rw[if_pos (by simp;omega)]
   exact⟨fun h=>(by cases h),fun h=>absurd h.2.1 h2⟩
theorem Dx {qd:Int}:∀ (xs:List Zm) (k:Nat) (out:List Zm),∃ ys,ys.Sublist xs∧Qg qd xs k out=out++ys
 | [],_,out=>⟨[],.slnil,by unfold Qg;rw[bS]⟩
 | x::xs,k,out=>by
  unfold Qg
  simp only
  cases XI out x qd
  ·rw[eO,cond_true]
   obtain⟨ys,h1,h2⟩:=Dx (qd:=qd) xs (k+1) (out ++ [x])
   exact⟨x::ys,h1.cons_cons x,by rw[h2,aT];rfl⟩
  ·rw[dK,cond_false]
   obtain⟨ys,h1,h2⟩:=Dx (qd:=qd) xs (k+1) out
   exact⟨ys,h1.cons x,h2⟩
theorem HY {time:Int}:∀ (xs:List Zm) (k:Nat),Sp time xs→JX xs k=.inl ()
 | [],_,_=>rfl
 | x::xs,k,h=>by
  unfold JX
  simp only
  rw[KD.2 (h x (aM ..)).1]
  exact HY xs (k+1) fun s hs=>h s (aJ _ hs)
theorem Dy {l:List Zm} {time:Int} (hl:l.length≤32) (h:Sp time l):YA l 500=(Qg 500 (Gs l) 0 [],0):=by
 unfold YA
 rw[show decide ((l.length:Int)>128)=false by simp;omega,cond_false,HY l 0 h]
 rfl
theorem L9 {l:List Zm} {time:Int} {r:List Zm×Int} (hl:l.length≤32) (h:Sp time l) (hr:YA l 500=r):r.1.length≤l.length∧Sp time r.1:=by
 subst hr
 rw[Dy hl h]
 obtain⟨ys,h1,h2⟩:=Dx (qd:=500) (Gs l) 0 []
 rw[cO] at h2
 simp only
 rw[h2]
 have hp:(Gs l).Perm l:=List.mergeSort_perm ..
 exact⟨by have:=h1.length_le;rw[hp.length_eq] at this;exact this,fun s hs=>h s (hp.mem_iff.1 (h1.mem hs))⟩
def Vi (t:Track) (qd:Int) (s:Zm):Int:=cond (Qz t s qd).1 (ZC (w64 ((Yy t.At s.At).tdiv 10000)) 1073741824) (-1)
theorem E6 {t:Track} {s:Zm} {qd time:Int} (hb:0≤qd∧qd≤60000) (ht:t.In∧t.Time=time) (hs:s.In∧s.Time=time):(Qz t s qd).2=0:=by
 have e1:X8 t=0:=by
  rcases Wq t with ⟨h,_⟩|⟨_,h⟩
  ·exact h
  ·exact absurd ht.1 h
 unfold Qz
 rw[e1,KD.2 hs.1]
 simp only[Q8]
 rw[if_neg (by decide),if_neg (by decide),if_neg (by simp;omega),if_neg (by rw[ht.2,hs.2];simp)]
 split
 ·split
  ·rfl
  ·split <;> rfl
 ·rfl
theorem E7 {t:Track} {s:Zm} {qd:Int} (ht:t.In) (hs:s.In):-1≤Vi t qd s∧Vi t qd s≤1099511627776:=by
 unfold Vi
 cases (Qz t s qd).1
 ·exact⟨show (-1:Int) ≤ -1 by decide,show (-1:Int)≤1099511627776 by decide⟩
 ·rw[cond_true]
  have h:=Fv ht.2.1 hs.2.1
  have h1:0≤Yy t.At s.At/10000∧Yy t.At s.At/10000≤Yy t.At s.At:=Bq h.2.1 (by decide)
  rw[WQ 10000 h.2.1,Zu (by omega)]
  unfold ZC
  split <;> omega
theorem LA {qd time:Int} {x:Track} (hb:0≤qd∧qd≤60000) (hx:x.In∧x.Time=time):∀ (l:List Zm) (k:Nat) (row:List Int),row.length=k+l.length→Sp time l→Jh qd x l k row=.inl (row.take k++l.map (Vi x qd))
 | [],k,row,h,_=>by
  show Sum.inl row=_
  rw[List.map_nil,bS,dQ (by simp at h;omega)]
 | s::l,k,row,h,hs=>by
  rw[aG] at h
  unfold Jh
  simp only
  rw[E6 hb hx (hs s (aM ..)),show ((0:Int) != 0)=false from rfl,cond_false]
  have key:∀ v:Int,v=Vi x qd s→∀ y4:List Int,y4=row.set k v→Jh qd x l (k+1) y4=.inl (row.take k++(s::l).map (Vi x qd)):=by
   intro v hv y4 hr
   subst hr
   rw[LA hb hx l (k+1) (row.set k v) (by rw[aQ];omega) (fun s hs'=>hs s (aJ _ hs')),L1 v (by omega),aT,dR,hv];rfl
  cases hf:(Qz x s qd).1
  ·exact key (-1) (by unfold Vi;rw[hf];rfl) _ rfl
  ·exact key _ (by unfold Vi;rw[hf,cond_true]) _ (by rw[List.set_set])
theorem LC {qw:List Zm} {qd time:Int} (hb:0≤qd∧qd≤60000) (hs:Sp time qw):∀ (l:List Track) (k:Nat) (out:List (List Int)),Tr time l→J8 qw qd l k out=.inl (out++l.map (fun t=>qw.map (Vi t qd)))
 | [],k,out,_=>by show Sum.inl out=_;simp
 | x::l,k,out,h=>by
  unfold J8
  rw[LA hb (h x (aM ..)) qw 0 (List.replicate ((qw.length:Int).toNat) (0:Int)) (by simp) hs,List.take_zero,cO]
  show J8 qw qd l (k+1) (out ++ [qw.map (Vi x qd)])=_
  rw[LC hb hs l (k+1) _ (fun t ht=>h t (aJ _ ht)),aT];rfl
theorem Oe {tr:List Track} {qw:List Zm} {qd time:Int} (h1:tr.length≤32) (h2:qw.length≤32) (hb:0≤qd∧qd≤60000) (ht:Tr time tr) (hs:Sp time qw):XK tr qw qd=(tr.map (fun t=>qw.map (Vi t qd)),0):=by
 unfold XK
 rw[show ((decide ((tr.length:Int)>32))||(decide ((qw.length:Int)>32)))=false by simp;omega,cond_false,LC hb hs tr 0 [] ht]
 rfl
theorem W9.ins {qb:Int} {n:Nat} {rows:List (List Int)} {taken:List Bool} {to:List Int} {t:Int} (h:W9 qb rows taken to t):(∀ r∈rows,r.length=n)→∀ k∈to,k<(n:Int):=by
 induction h with
 | nil taken=>intro _ k hk;cases hk
 | skip _ ih =>
  intro hr k hk
  rcases bA.1 hk with rfl|hk
  ·omega
  ·exact ih (fun r h=>hr r (aJ _ h)) k hk
 | pick k h1 h2 h3 _ ih =>
  intro hr q hq
  rcases bA.1 hq with rfl|hq
  ·have:=hr _ (aM ..);omega
  ·exact ih (fun r h=>hr r (aJ _ h)) q hq
theorem Og:∀ (xs:List Int) (k:Nat),(∀ c∈xs,-1≤c∧c≤1099511627776)→Qk xs k=.inl ()
 | [],_,_=>rfl
 | x::xs,k,h=>by
  have hx:=h x (aM ..)
  unfold Qk
  rw[show ((decide (x<(-1)))||(decide (x>1099511627776)))=false by simp;omega,cond_false]
  exact Og xs (k+1) fun c hc=>h c (aJ _ hc)
theorem Oh {qa:List (List Int)} {n:Nat} (hn:n≤32) (h0:qa ≠ []→(qa[0]?.getD []).length=n):∀ (xs:List (List Int)) (k:Nat),(∀ r∈xs,r∈qa∧r.length=n∧∀ c∈r,-1≤c∧c≤1099511627776)→Ql qa xs k=.inl ()
 | [],_,_=>rfl
 | x::xs,k,h=>by
  obtain⟨h1,h2,h3⟩:=h x (aM ..)
  unfold Ql
  rw[show decide ((x.length:Int)>32)=false by simp;omega,cond_false,h0 (fun e=>by rw[e] at h1;cases h1),h2,show ((n:Int) != (n:Int))=false by simp,cond_false,Og x 0 h3]
  exact Oh hn h0 xs (k+1) fun r hr=>h r (aJ _ hr)
theorem E8 {tr:List Track} {qw:List Zm} {qd time:Int} {r4:List (List Int)×Int} {r5:List Int×Int×Int} (h1:tr.length≤32) (h2:qw.length≤32) (hb:0≤qd∧qd≤60000) (ht:Tr time tr) (hs:Sp time qw)
  (h4:XK tr qw qd=r4) (h5:XF r4.1 2147483648=r5):r5.1.length=tr.length∧∀ k∈r5.1,k<(qw.length:Int):=by
 rw[Oe h1 h2 hb ht hs] at h4
 subst h4
 have dq:∀ r∈tr.map (fun t=>qw.map (Vi t qd)),r.length=qw.length:=by
  intro r hr
  obtain⟨t,_,rfl⟩:=bT.1 hr
  exact aF ..
 have hc:YC (tr.map (fun t=>qw.map (Vi t qd))) 2147483648=0:=by
  unfold YC
  rw[show decide (((tr.map (fun t=>qw.map (Vi t qd))).length:Int)>32)=false by rw[aF];simp;omega,cond_false,Oh h2 (fun hne=>?_) _ 0 (fun r hr=>⟨hr,dq r hr,fun c hc=>?_⟩)]
  ·rfl
  ·cases hm:tr with
   | nil=>rw[hm] at hne;exact absurd rfl hne
   | cons a b=>simp
  ·obtain⟨t,ht',rfl⟩:=bT.1 hr
   obtain⟨s,hs',rfl⟩:=bT.1 hc
   exact E7 (ht t ht').1 (hs s hs').1
 obtain⟨to,e,p⟩:=TT hc
 rw[e] at h5
 subst h5
 exact⟨by rw[p.len,aF],p.ins dq⟩
theorem Hm {f:Za} {t a:Int} (h:(Ye f t a).2=0):(Ye f t a).1.Track.Time=t∧(Ye f t a).1.Track.ID=f.Track.ID:=by
 unfold Ye at h ⊢
 simp only[Q8] at h ⊢
 by_cases h1:(ZL f != 0)=true
 ·rw[if_pos h1] at h;simp at h h1;exact absurd h h1
 ·rw[if_neg h1] at h ⊢
  have hc:f.In:=Vq.1 (by simpa using h1)
  have hct:=hc.1.1
  by_cases h2:Yw t 0 200000=true
  ·rw[if_pos h2] at h;cases h
  ·rw[if_neg h2] at h ⊢
   have ht:0≤t∧t≤200000:=by rw[BM] at h2;simpa using h2
   by_cases h3:Yw a 0 20=true
   ·rw[if_pos h3] at h;cases h
   ·rw[if_neg h3] at h ⊢
    by_cases h4:Yw (w64 (t-f.Track.Time)) 0 600=true
    ·rw[if_pos h4] at h;cases h
    ·rw[if_neg h4] at h ⊢
     by_cases h5:(w64 (t-f.Track.Time)==0)=true
     ·rw[if_pos h5]
      have h6:w64 (t-f.Track.Time)=0:=by simpa using h5
      rw[Zu (by omega)] at h6
      exact⟨by show f.Track.Time=t;omega,rfl⟩
     ·rw[if_neg h5] at h ⊢
      split at h
      ·cases h
      ·rename_i h6;rw[if_neg h6];exact⟨rfl,rfl⟩
theorem Dz (t:Zi):∀ (xs:List followed) (k:Nat) (out:List followed),(ZK t xs k out).length≤out.length+xs.length
 | [],_,out=>by show out.length≤_;simp
 | x::xs,k,out=>by
  unfold ZK
  have h:∀ o:List followed,o.length≤out.length+1→(ZK t xs (k+1) o).length≤out.length+(x::xs).length:=fun o ho=>by
   have:=Dz t xs (k+1) o
   rw[aG];omega
  simp only[Q8]
  split
  ·split
   ·exact h _ (by omega)
   ·split
    ·exact h _ (by simp)
    ·exact h _ (by simp)
  ·exact h _ (by simp)
theorem HZ {t r:Zi} (hr:ZF t=r):r.all.length≤t.all.length:=by
 subst hr
 have:=Dz t t.all 0 []
 simpa[ZF,Xq] using this
end Go.Sky
end
