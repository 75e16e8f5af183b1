/- Lemmas toward the given statement (part 8 of 20): Vd Vc Best Ve Scn. Each theorem states its own conditions; nothing is assumed beyond them. -/
import Derived.Test.YtjggkpkehdnhiaaGreatDoorBp06
import Derived.Test.YtjggkpkehdnhiaaGreatDoorBp07
import Derived.Test.YtjggkpkehdnhiaaGreatDoorBp05
import Derived.Test.YtjggkpkehdnhiaaGreatDoorBp03
set_option maxRecDepth 100000
section
namespace Go.Sky
open Go Go.Eng Go.Proofs
set_option maxHeartbeats 4000000 in
theorem Ua (A_costs:Option Addr) (qo:Nat) (qb:List (List Int)) (qq:List (Sl Int)) (qc:Int) (from_:Int) (A_taken:Option Addr) (xk:Nat) (taken:List Bool) (w:World) (xj:Rd w 1 A_costs (qq.map Sl.c)) (j8:qb.length≤qo) (xa:∀ s∈qq,s.rd w 1 ic) (qz:qb=qq.map Sl.l) (ga:Rd w 1 A_taken (taken.map bc)) (gz:taken.length≤xk) (hg:Good qb (qb[0]?.getD []).length qc) (hfr:0≤from_∧from_≤(qb.length:Int)) (htk:taken.length=(qb[0]?.getD []).length):Calls Tryz.prog 110 #[.slice A_costs qb.length qo,.int .i64 qc,.int .i64 from_,.slice A_taken taken.length xk] w (Ret w (.int .i64 (ZM qb qc from_ taken))):=by
 have ki:=xj.short;rw[← Jt qz] at ki
 have rv:=ga.short;rw[aD] at rv
 refine Zp (vs:=[.slice A_costs qb.length qo,.i qc,.i from_,.slice A_taken taken.length xk]) (w:=w) Tryz.func110 rfl Tryz.ntmps110 rfl (Zf (ZA 5 (fun b1=>.p0 b1) (fun b1=>Bk b1 #[.i qc] 3) (fun b1=>{}) (fun b1=>ZA 7 (fun b2=>.p0 b2) (fun b2=>Bk b2 #[.slice A_taken taken.length xk] 137) (fun b2=>{}) (fun b2=>Zc 3 [] [(8,.i 0)] {} (Zz (Zc 2 [] [(31,.slice A_costs qb.length qo),(32,.i from_)] {} ?_))))))
 obtain⟨A1,hA1⟩:∃ A0_,A0_=(if qo=from_.toNat then A_costs else A_costs.map (fun a=>a.add (from_.toNat*1))):=⟨_,rfl⟩
 have hR1:Rd w 1 A1 ((qq.drop from_.toNat).map Sl.c):=by rw[hA1];exact xj.dropMap _ (Ak qz j8)
 have hC1:(qb.drop from_.toNat).length≤(qo-from_.toNat):=by simp only[aH];omega
 refine TL.v (sV (Instr.sliceAt 132 (.slice A_costs qb.length qo) (some (.i from_)) none none)) 33 (.slice A1 ((qb.drop from_.toNat).length) (qo-from_.toNat)) (fun w hM=>(Vv from_.toNat qb.length Kr (.inr ⟨_,_,rfl,sd,rfl⟩) (.inl ⟨rfl,rfl⟩) sd (by omega)).trans (by rw[hA1];congr 3;simp only[aH])) {} (ZA 9 (fun b3=>.p0 b3) (fun b3=>Bk b3 #[.slice none 0 0] 132) (fun b3=>{}) (fun b3=>Yp 0 (Bk b3 #[.slice A1 ((qb.drop from_.toNat).length) (qo-from_.toNat)] 132) (fun _=>{}) (Zz (Zc 3 [0] [(10,.i ((qb.drop from_.toNat).length:Int))] {} ?_))))
 generalize hr1:((qb.drop from_.toNat).length:Int)=r1
 refine Z1 (Zf (Zc 2 [] [(37,.b (r1==0))] {} (Zb rfl (TC.cond (r1==0) rfl Kr (fun h1=>?_) (fun h1=>?_)))))
 ·exact Zf (Zc 1 [] [(8,.i 0)] {} (Zb rfl (TC.ret (Zo (TE.ret [] (.i 0) {} (by unfold ZM;refine eS (fun z=>(.i z:Value)) ?_;subst hr1;exact Zm h1 (rfl)))))))
 ·have vm:=(Yl h1)
  refine Yc (Zc 1 [0] [(38,.slice A1 ((qb.drop from_.toNat).length) (qo-from_.toNat))] {} (TL.v (sV (Instr.indexAt 132 (.slice A1 ((qb.drop from_.toNat).length) (qo-from_.toNat)) (.i 0))) 39 (.pointer (some (Ix A1 (0*1)))) (fun w hM=>Zr (hR1.sat hM) (Jt (GL qz from_.toNat)) Kr sd sd) {} ?_))
  have w5:=(JD (XS (Nv xa from_.toNat) 0) (JI (GL qz from_.toNat) 0)).short;rw[aD] at w5
  refine TL.v (sV (Instr.loadAt 22 (.pointer (some (Ix A1 (0*1)))))) 40 (.slice (((qq.drop from_.toNat)[0]?.getD Sl.zero).A) (((qb.drop from_.toNat)[0]?.getD []).length) (((qq.drop from_.toNat)[0]?.getD Sl.zero).cap)) (fun w hM=>(by have h:=Zu (P:=Tryz.prog) (T:=22) (off:=0) (i:=0) (.slice ((qq.drop from_.toNat)[0]?.getD Sl.zero).A ((qq.drop from_.toNat)[0]?.getD Sl.zero).l.length ((qq.drop from_.toNat)[0]?.getD Sl.zero).cap) (hR1.sat hM) (Z6 (getD_at _ _ Sl.zero (U9 (GL qz from_.toNat) sd))) Kr Kr;rw[(JI (GL qz from_.toNat) 0)] at h;exact h)) {} (Zc 4 [] [(41,.i (((qb.drop from_.toNat)[0]?.getD []).length:Int))] {} (ZA 11 (fun b4=>.p0 b4) (fun b4=>Bk b4 #[.i 0] 3) (fun b4=>{}) (fun b4=>Yp 0 (Bk b4 #[.i (((qb.drop from_.toNat)[0]?.getD []).length:Int)] 3) (fun _=>{}) (Zz (Zc 4 [0] [(12,.i (w64 ((((qb.drop from_.toNat)[0]?.getD []).length:Int)+r1)))] {} ?_)))))
  generalize hr2:w64 ((((qb.drop from_.toNat)[0]?.getD []).length:Int)+r1)=r2
  have ks_:=Ao (taken:=taken) hg h1 hr1 hr2;have kf_:=ks_.facts
  refine Zz (Zc 2 [] [(13,.func (.func 154) #[] #[.p0 b4,.p0 b1,.p0 b2,.p0 b3])] {} (Z1 ?_))
  have bh:w64 (r1+1)=(((w64 (r1+1)).toNat:Nat):Int):=(bN sd).symm
  have bm:w64 (r2+1)=(((w64 (r2+1)).toNat:Nat):Int):=(bN sd).symm
  let Mr8_:Mem:=[Bk b4 #[.i (((qb.drop from_.toNat)[0]?.getD []).length:Int)] 3,Bk b3 #[.slice A1 ((qb.drop from_.toNat).length) (qo-from_.toNat)] 132,Bk b2 #[.slice A_taken taken.length xk] 137,Bk b1 #[.i qc] 3]
  refine Jm (G:=AN×AN) (base:=[(10,.i r1),(12,.i r2),(13,.func (.func 154) #[] #[.p0 b4,.p0 b1,.p0 b2,.p0 b3])]) (vals:=fun γ=>[.i r1,.i (w64 (r1+1)),.slice (γ.1.1) ((List.replicate ((w64 (r1+1)).toNat) (0:Int)).length) (γ.1.2),.i r2,.i (w64 (r2+1)),.slice (γ.2.1) ((List.replicate ((w64 (r2+1)).toNat) (0:Int)).length) (γ.2.2),.slice (γ.1.1) ((List.replicate ((w64 (r1+1)).toNat) (0:Int)).length) (γ.1.2),.slice (γ.2.1) ((List.replicate ((w64 (r2+1)).toNat) (0:Int)).length) (γ.2.2)]) (writes:=[2,5]) (mem:=fun bs γ=>match bs with | [x2_,x5_]=>(bif x2_ then [Ow (γ.1.1) (γ.1.2) 3 1 ((List.replicate ((w64 (r1+1)).toNat) (0:Int)).map ic)] else [])++((bif x5_ then [Ow (γ.2.1) (γ.2.2) 3 1 ((List.replicate ((w64 (r2+1)).toNat) (0:Int)).map ic)] else [])++(Mr8_))|_=>[]) ((none,0),(none,0)) (fun γ=>[(10,.i r1),(12,.i r2),(13,.func (.func 154) #[] #[.p0 b4,.p0 b1,.p0 b2,.p0 b3]),(14,.slice (γ.1.1) ((List.replicate ((w64 (r1+1)).toNat) (0:Int)).length) (γ.1.2)),(15,.slice (γ.2.1) ((List.replicate ((w64 (r2+1)).toNat) (0:Int)).length) (γ.2.2))]) Kr Kr Kr Kr Kr (fun γ=>Kr) (fun _ hM=>hM) (fun γ=>Kr) ?_ ?_
  ·skip
   exact Steps.run (i:=0) 2 [0,0] Mr8_ Kr Kr (fun S (γ:AN×AN) w hM=>by rw[mS2 rfl rfl] at hM;exact hM.sub (Zl (Zl (aB _)))) Kr (fun (γ:AN×AN)=>{}) (Steps.op (i:=2) (Γ:=AN) (fun g (γ:AN×AN)=>(g,γ.2)) (fun _=>[]) (fun g (γ:AN×AN)=>[Ow (g.1) (g.2) 3 1 ((List.replicate ((w64 (r1+1)).toNat) (0:Int)).map ic)]) (fun S (γ:AN×AN)=>(bif S 5 then [Ow (γ.2.1) (γ.2.2) 3 1 ((List.replicate ((w64 (r2+1)).toNat) (0:Int)).map ic)] else [])++(Mr8_)) [2,6,7] (fun (γ:AN×AN)=>sV (Instr.makeSlice 22 (.i (w64 (r1+1))) (.i (w64 (r1+1))))) (some 48) (fun g (γ:AN×AN)=>.slice (g.1) ((List.replicate ((w64 (r1+1)).toNat) (0:Int)).length) (g.2)) (fun S (γ:AN×AN) hj hd hl=>by rw[mS2 hj rfl];exact aC _) (fun S (γ:AN×AN) g _=>(aC _).symm) (fun (γ:AN×AN) M' w hM=>(by have h:=KX (P:=Tryz.prog) (c:=ic) (t:=22) (e:=3) (sz:=1) (bytes:=8) 0 .i64 .i64 ((w64 (r1+1)).toNat) Kr Kr sd sd w hM;rw[← bh] at h;exact h)) (fun (γ:AN×AN)=>Kr) (fun (γ:AN×AN) g=>Kr) Kr (fun (γ:AN×AN) g=>Kr) (Steps.run (i:=3) 5 [0,0] Mr8_ Kr Kr (fun S (γ:AN×AN) w hM=>by rw[mS2 rfl rfl] at hM;exact hM.sub (Zl (Zl (aB _)))) Kr (fun (γ:AN×AN)=>{}) (Steps.op (i:=5) (Γ:=AN) (fun g (γ:AN×AN)=>(γ.1,g)) (fun _=>[]) (fun g (γ:AN×AN)=>[Ow (g.1) (g.2) 3 1 ((List.replicate ((w64 (r2+1)).toNat) (0:Int)).map ic)]) (fun S (γ:AN×AN)=>(bif S 2 then [Ow (γ.1.1) (γ.1.2) 3 1 ((List.replicate ((w64 (r1+1)).toNat) (0:Int)).map ic)] else [])++(Mr8_)) [5,7] (fun (γ:AN×AN)=>sV (Instr.makeSlice 22 (.i (w64 (r2+1))) (.i (w64 (r2+1))))) (some 51) (fun g (γ:AN×AN)=>.slice (g.1) ((List.replicate ((w64 (r2+1)).toNat) (0:Int)).length) (g.2)) (fun S (γ:AN×AN) hj hd hl=>by rw[mS2 rfl hj];exact(aA _ (aC _)).trans (ZC _ _ _)) (fun S (γ:AN×AN) g _=>((aA _ (aC _)).trans (ZC _ _ _)).symm) (fun (γ:AN×AN) M' w hM=>(by have h:=KX (P:=Tryz.prog) (c:=ic) (t:=22) (e:=3) (sz:=1) (bytes:=8) 0 .i64 .i64 ((w64 (r2+1)).toNat) Kr Kr sd sd w hM;rw[← bm] at h;exact h)) (fun (γ:AN×AN)=>Kr) (fun (γ:AN×AN) g=>Kr) Kr (fun (γ:AN×AN) g=>Kr) (Steps.run (i:=6) 8 [0,0] Mr8_ Kr Kr (fun S (γ:AN×AN) w hM=>by rw[mS2 rfl rfl] at hM;exact hM.sub (Zl (Zl (aB _)))) Kr (fun (γ:AN×AN)=>{}) (X6 Kr)))))
  ·rintro⟨⟨A,c⟩,⟨A_2,c_2⟩⟩
   refine Yi [Ow A c 3 1 ((List.replicate ((w64 (r1+1)).toNat) (0:Int)).map ic),Ow A_2 c_2 3 1 ((List.replicate ((w64 (r2+1)).toNat) (0:Int)).map ic),Bk b4 #[.i (((qb.drop from_.toNat)[0]?.getD []).length:Int)] 3,Bk b3 #[.slice A1 ((qb.drop from_.toNat).length) (qo-from_.toNat)] 132,Bk b2 #[.slice A_taken taken.length xk] 137,Bk b1 #[.i qc] 3] (fun _ hM=>hM) (Z3 (TC.seq ?_))
   have bn:w64 (r2+1)=(((w64 (r2+1)).toNat:Nat):Int):=(bN sd).symm
   have bo:w64 (r2+1)=(((w64 (r2+1)).toNat:Nat):Int):=(bN sd).symm
   let Mr9_:Mem:=[Ow A c 3 1 ((List.replicate ((w64 (r1+1)).toNat) (0:Int)).map ic),Ow A_2 c_2 3 1 ((List.replicate ((w64 (r2+1)).toNat) (0:Int)).map ic),Bk b4 #[.i (((qb.drop from_.toNat)[0]?.getD []).length:Int)] 3,Bk b3 #[.slice A1 ((qb.drop from_.toNat).length) (qo-from_.toNat)] 132,Bk b2 #[.slice A_taken taken.length xk] 137,Bk b1 #[.i qc] 3]
   refine Jm (G:=AN×AN) (base:=[(10,.i r1),(12,.i r2),(13,.func (.func 154) #[] #[.p0 b4,.p0 b1,.p0 b2,.p0 b3]),(14,.slice A ((List.replicate ((w64 (r1+1)).toNat) (0:Int)).length) c),(15,.slice A_2 ((List.replicate ((w64 (r2+1)).toNat) (0:Int)).length) c_2)]) (vals:=fun γ=>[.i r2,.i (w64 (r2+1)),.slice (γ.1.1) ((List.replicate ((w64 (r2+1)).toNat) (0:Int)).length) (γ.1.2),.i r2,.i (w64 (r2+1)),.slice (γ.2.1) ((List.replicate ((w64 (r2+1)).toNat) (0:Int)).length) (γ.2.2),.slice (γ.1.1) ((List.replicate ((w64 (r2+1)).toNat) (0:Int)).length) (γ.1.2),.slice (γ.2.1) ((List.replicate ((w64 (r2+1)).toNat) (0:Int)).length) (γ.2.2)]) (writes:=[2,5]) (mem:=fun bs γ=>match bs with | [x2_,x5_]=>(bif x2_ then [Ow (γ.1.1) (γ.1.2) 3 1 ((List.replicate ((w64 (r2+1)).toNat) (0:Int)).map ic)] else [])++((bif x5_ then [Ow (γ.2.1) (γ.2.2) 3 1 ((List.replicate ((w64 (r2+1)).toNat) (0:Int)).map ic)] else [])++(Mr9_))|_=>[]) ((none,0),(none,0)) (fun γ=>[(10,.i r1),(12,.i r2),(13,.func (.func 154) #[] #[.p0 b4,.p0 b1,.p0 b2,.p0 b3]),(14,.slice A ((List.replicate ((w64 (r1+1)).toNat) (0:Int)).length) c),(15,.slice A_2 ((List.replicate ((w64 (r2+1)).toNat) (0:Int)).length) c_2),(16,.slice (γ.1.1) ((List.replicate ((w64 (r2+1)).toNat) (0:Int)).length) (γ.1.2)),(17,.slice (γ.2.1) ((List.replicate ((w64 (r2+1)).toNat) (0:Int)).length) (γ.2.2))]) Kr Kr Kr Kr Kr (fun γ=>Kr) (fun _ hM=>hM) (fun γ=>Kr) ?_ ?_
   ·skip
    exact Steps.run (i:=0) 2 [0,0] Mr9_ Kr Kr (fun S (γ:AN×AN) w hM=>by rw[mS2 rfl rfl] at hM;exact hM.sub (Zl (Zl (aB _)))) Kr (fun (γ:AN×AN)=>{}) (Steps.op (i:=2) (Γ:=AN) (fun g (γ:AN×AN)=>(g,γ.2)) (fun _=>[]) (fun g (γ:AN×AN)=>[Ow (g.1) (g.2) 3 1 ((List.replicate ((w64 (r2+1)).toNat) (0:Int)).map ic)]) (fun S (γ:AN×AN)=>(bif S 5 then [Ow (γ.2.1) (γ.2.2) 3 1 ((List.replicate ((w64 (r2+1)).toNat) (0:Int)).map ic)] else [])++(Mr9_)) [2,6,7] (fun (γ:AN×AN)=>sV (Instr.makeSlice 22 (.i (w64 (r2+1))) (.i (w64 (r2+1))))) (some 54) (fun g (γ:AN×AN)=>.slice (g.1) ((List.replicate ((w64 (r2+1)).toNat) (0:Int)).length) (g.2)) (fun S (γ:AN×AN) hj hd hl=>by rw[mS2 hj rfl];exact aC _) (fun S (γ:AN×AN) g _=>(aC _).symm) (fun (γ:AN×AN) M' w hM=>(by have h:=KX (P:=Tryz.prog) (c:=ic) (t:=22) (e:=3) (sz:=1) (bytes:=8) 0 .i64 .i64 ((w64 (r2+1)).toNat) Kr Kr sd sd w hM;rw[← bn] at h;exact h)) (fun (γ:AN×AN)=>Kr) (fun (γ:AN×AN) g=>Kr) Kr (fun (γ:AN×AN) g=>Kr) (Steps.run (i:=3) 5 [0,0] Mr9_ Kr Kr (fun S (γ:AN×AN) w hM=>by rw[mS2 rfl rfl] at hM;exact hM.sub (Zl (Zl (aB _)))) Kr (fun (γ:AN×AN)=>{}) (Steps.op (i:=5) (Γ:=AN) (fun g (γ:AN×AN)=>(γ.1,g)) (fun _=>[]) (fun g (γ:AN×AN)=>[Ow (g.1) (g.2) 3 1 ((List.replicate ((w64 (r2+1)).toNat) (0:Int)).map ic)]) (fun S (γ:AN×AN)=>(bif S 2 then [Ow (γ.1.1) (γ.1.2) 3 1 ((List.replicate ((w64 (r2+1)).toNat) (0:Int)).map ic)] else [])++(Mr9_)) [5,7] (fun (γ:AN×AN)=>sV (Instr.makeSlice 22 (.i (w64 (r2+1))) (.i (w64 (r2+1))))) (some 57) (fun g (γ:AN×AN)=>.slice (g.1) ((List.replicate ((w64 (r2+1)).toNat) (0:Int)).length) (g.2)) (fun S (γ:AN×AN) hj hd hl=>by rw[mS2 rfl hj];exact(aA _ (aC _)).trans (ZC _ _ _)) (fun S (γ:AN×AN) g _=>((aA _ (aC _)).trans (ZC _ _ _)).symm) (fun (γ:AN×AN) M' w hM=>(by have h:=KX (P:=Tryz.prog) (c:=ic) (t:=22) (e:=3) (sz:=1) (bytes:=8) 0 .i64 .i64 ((w64 (r2+1)).toNat) Kr Kr sd sd w hM;rw[← bo] at h;exact h)) (fun (γ:AN×AN)=>Kr) (fun (γ:AN×AN) g=>Kr) Kr (fun (γ:AN×AN) g=>Kr) (Steps.run (i:=6) 8 [0,0] Mr9_ Kr Kr (fun S (γ:AN×AN) w hM=>by rw[mS2 rfl rfl] at hM;exact hM.sub (Zl (Zl (aB _)))) Kr (fun (γ:AN×AN)=>{}) (X6 Kr)))))
   ·rintro⟨⟨A_3,c_3⟩,⟨A_4,c_4⟩⟩
    refine Yi [Ow A_3 c_3 3 1 ((List.replicate ((w64 (r2+1)).toNat) (0:Int)).map ic),Ow A_4 c_4 3 1 ((List.replicate ((w64 (r2+1)).toNat) (0:Int)).map ic),Ow A c 3 1 ((List.replicate ((w64 (r1+1)).toNat) (0:Int)).map ic),Ow A_2 c_2 3 1 ((List.replicate ((w64 (r2+1)).toNat) (0:Int)).map ic),Bk b4 #[.i (((qb.drop from_.toNat)[0]?.getD []).length:Int)] 3,Bk b3 #[.slice A1 ((qb.drop from_.toNat).length) (qo-from_.toNat)] 132,Bk b2 #[.slice A_taken taken.length xk] 137,Bk b1 #[.i qc] 3] (fun _ hM=>hM) (Z3 (TC.seq (Zf (Zc 1 [] [(18,.i 1)] {} (Zb rfl ?_)))))
    obtain⟨R5,hR⟩:∃ R,R=J6 qb qc from_ taken r2 r1.toNat 0 (List.replicate ((w64 (r1+1)).toNat) (0:Int)) (List.replicate ((w64 (r2+1)).toNat) (0:Int)) (List.replicate ((w64 (r2+1)).toNat) (0:Int)) (List.replicate ((w64 (r2+1)).toNat) (0:Int)):=⟨_,rfl⟩
    refine TC.cut (S:=(List Int)×(List Int)×(List Int)×(List Int)) (fun (u_2,v_2,qv,pk)=>[(12,.i r2),(13,.func (.func 154) #[] #[.p0 b4,.p0 b1,.p0 b2,.p0 b3]),(16,.slice A_3 qv.length c_3)]) (fun (u_2,v_2,qv,pk)=>[Ow A_3 c_3 3 1 (qv.map ic),Bk b4 #[.i (((qb.drop from_.toNat)[0]?.getD []).length:Int)] 3,Bk b3 #[.slice A1 ((qb.drop from_.toNat).length) (qo-from_.toNat)] 132,Bk b2 #[.slice A_taken taken.length xk] 137,Bk b1 #[.i qc] 3]) (fun (u_2,v_2,qv,pk)=>R5=(u_2,v_2,qv,pk)∧u_2.length=((w64 (r1+1)).toNat)∧v_2.length=((w64 (r2+1)).toNat)∧qv.length=((w64 (r2+1)).toNat)∧pk.length=((w64 (r2+1)).toNat)∧(Vj r1.toNat r2.toNat (cst qb qc from_ taken) r1.toNat u_2 v_2 qv pk)) ?_ ?_
    ·refine TC.block (TC.rw 18 (.i 1) (.i (1+((0:Nat):Int))) Kr (int_eq (by first|omega|(rw[Zt (by omega)];omega)|(simp only[Xi];omega))) (Xp (X:=Nat×(List Int)×(List Int)×(List Int)×(List Int)) (fun (k,u,v,row,way)=>[(10,.i r1),(12,.i r2),(13,.func (.func 154) #[] #[.p0 b4,.p0 b1,.p0 b2,.p0 b3]),(14,.slice A u.length c),(15,.slice A_2 v.length c_2),(16,.slice A_3 row.length c_3),(17,.slice A_4 way.length c_4),(18,.i (1+(k:Int)))]) (fun (k,u,v,row,way)=>[Ow A_3 c_3 3 1 (row.map ic),Ow A_4 c_4 3 1 (way.map ic),Ow A c 3 1 (u.map ic),Ow A_2 c_2 3 1 (v.map ic),Bk b4 #[.i (((qb.drop from_.toNat)[0]?.getD []).length:Int)] 3,Bk b3 #[.slice A1 ((qb.drop from_.toNat).length) (qo-from_.toNat)] 132,Bk b2 #[.slice A_taken taken.length xk] 137,Bk b1 #[.i qc] 3]) (fun (k,u,v,row,way)=>r1.toNat-k) (fun (k,u,v,row,way)=>k≤r1.toNat∧R5=J6 qb qc from_ taken r2 (r1.toNat-k) k u v row way∧u.length=((w64 (r1+1)).toNat)∧v.length=((w64 (r2+1)).toNat)∧row.length=((w64 (r2+1)).toNat)∧way.length=((w64 (r2+1)).toNat)∧(Vj r1.toNat r2.toNat (cst qb qc from_ taken) k u v row way)) ?_ (0,(List.replicate ((w64 (r1+1)).toNat) (0:Int)),(List.replicate ((w64 (r2+1)).toNat) (0:Int)),(List.replicate ((w64 (r2+1)).toNat) (0:Int)),(List.replicate ((w64 (r2+1)).toNat) (0:Int))) ⟨aP _,hR,sz,sz,sz,sz,(S4 ks_)⟩ Kr (sb 255)))
     rintro⟨k,u,v,row,way⟩ ⟨hk,hI,hl_u,hl_v,sj,o8,vc⟩
     refine TC.seq (Zf (Zc 3 [] [(60,.b (decide ((1+(k:Int))≤r1)))] {} (Zb rfl (TC.cond (decide ((1+(k:Int))≤r1)) rfl Kr (fun h2=>?_) (fun h2=>?_)))))
     ·have hlt:k<r1.toNat:=by have p0_:=(ZF h2);first|omega|(simp only[Xi] at *;omega)
      have hd:r1.toNat-k=(r1.toNat-(k+1))+1:=by omega
      have k9:=(ZF h2)
      refine Yg (TC.seq (TC.block (Zf (Zc 2 [] [(63,.slice A_3 row.length c_3),(64,.i (1+(k:Int)))] {} (TL.v (sV (Instr.indexAt 22 (.slice A_3 row.length c_3) (.i 0))) 65 (.pointer (some (Ix A_3 (0*1)))) (fun w hM=>Zr (hM.rd_at 0 rfl) (by simp) Kr sd sd) {} (KF (Γ:=Unit) (sU (Instr.storeAt 3 (.pointer (some ((Ix A_3 (0*1)).add 0))) (.i (1+(k:Int))))) 0 (Ow A_3 c_3 3 1 ((row.set 0 (1+(k:Int))).map ic)) (Y2 (n:=1) (off:=0) (.i (1+(k:Int))) 0 ((row.set 0 (1+(k:Int))).map ic) rfl (Z6 (getD_at _ _ 0 sd)) Kr Kr Kr Kr (YJ Kr)) Kr (TL.rw 16 (.slice A_3 row.length c_3) (.slice A_3 ((row.set 0 (1+(k:Int))).length) c_3) Kr (by simp only[aL]) (Zz (Zc 1 [] [(19,.i 0)] {} (Zz (Zc 2 [] [(67,.i (w64 (r2+1)))] {} (TL.rw 67 (.i (w64 (r2+1))) (.i (((w64 (r2+1)).toNat:Nat):Int)) Kr (int_eq (bN sd).symm) (TL.on (Γ:=AN) (sV (Instr.makeSlice 22 (.i (((w64 (r2+1)).toNat:Nat):Int)) (.i (((w64 (r2+1)).toNat:Nat):Int)))) 68 (fun g=>.slice g.1 (List.replicate ((w64 (r2+1)).toNat) (0:Int)).length g.2) (fun g=>Ow g.1 g.2 3 1 ((List.replicate ((w64 (r2+1)).toNat) (0:Int)).map ic)) (KX (P:=Tryz.prog) (c:=ic) (t:=22) (e:=3) (sz:=1) (bytes:=8) 0 .i64 .i64 ((w64 (r2+1)).toNat) Kr Kr sd sd) {} ?_)))))))))))))
      rintro⟨A_5,c_5⟩
      refine Zc 4 [] [(20,.slice A_5 ((List.replicate ((w64 (r2+1)).toNat) (0:Int)).length) c_5)] {} (Z1 (Zf (Zc 3 [] [(70,.i ((List.replicate ((w64 (r2+1)).toNat) (0:Int)).length:Int)),(71,.i 0)] {} (Zb rfl ?_))))
      obtain⟨R7,xo⟩:∃ R,R=Xs ((w64 (r2+1)).toNat) 0 (List.replicate ((w64 (r2+1)).toNat) (0:Int)):=⟨_,rfl⟩
      refine TC.cut (S:=(List Int)) (fun jx=>[(10,.i r1),(12,.i r2),(13,.func (.func 154) #[] #[.p0 b4,.p0 b1,.p0 b2,.p0 b3]),(14,.slice A u.length c),(15,.slice A_2 v.length c_2),(16,.slice A_3 ((row.set 0 (1+(k:Int))).length) c_3),(17,.slice A_4 way.length c_4),(18,.i (1+(k:Int))),(19,.i 0),(20,.slice A_5 jx.length c_5)]) (fun jx=>[Ow A_5 c_5 3 1 (jx.map ic),Ow A_3 c_3 3 1 ((row.set 0 (1+(k:Int))).map ic),Ow A_4 c_4 3 1 (way.map ic),Ow A c 3 1 (u.map ic),Ow A_2 c_2 3 1 (v.map ic),Bk b4 #[.i (((qb.drop from_.toNat)[0]?.getD []).length:Int)] 3,Bk b3 #[.slice A1 ((qb.drop from_.toNat).length) (qo-from_.toNat)] 132,Bk b2 #[.slice A_taken taken.length xk] 137,Bk b1 #[.i qc] 3]) (fun jx=>R7=jx∧jx.length=((w64 (r2+1)).toNat)) ?_ ?_
      ·refine TC.block (Xp (X:=Nat×(List Int)) (fun (k_2,low)=>[(10,.i r1),(12,.i r2),(13,.func (.func 154) #[] #[.p0 b4,.p0 b1,.p0 b2,.p0 b3]),(14,.slice A u.length c),(15,.slice A_2 v.length c_2),(16,.slice A_3 ((row.set 0 (1+(k:Int))).length) c_3),(17,.slice A_4 way.length c_4),(18,.i (1+(k:Int))),(19,.i 0),(20,.slice A_5 low.length c_5),(70,.i ((List.replicate ((w64 (r2+1)).toNat) (0:Int)).length:Int)),(71,.i (k_2:Int))]) (fun (k_2,low)=>[Ow A_5 c_5 3 1 (low.map ic),Ow A_3 c_3 3 1 ((row.set 0 (1+(k:Int))).map ic),Ow A_4 c_4 3 1 (way.map ic),Ow A c 3 1 (u.map ic),Ow A_2 c_2 3 1 (v.map ic),Bk b4 #[.i (((qb.drop from_.toNat)[0]?.getD []).length:Int)] 3,Bk b3 #[.slice A1 ((qb.drop from_.toNat).length) (qo-from_.toNat)] 132,Bk b2 #[.slice A_taken taken.length xk] 137,Bk b1 #[.i qc] 3]) (fun (k_2,low)=>((w64 (r2+1)).toNat)-k_2) (fun (k_2,low)=>k_2≤((w64 (r2+1)).toNat)∧R7=Xs (((w64 (r2+1)).toNat)-k_2) k_2 low∧low.length=((w64 (r2+1)).toNat)) ?_ (0,(List.replicate ((w64 (r2+1)).toNat) (0:Int))) ⟨aP _,xo,sz⟩ Kr (sb 511))
       rintro⟨k_2,low⟩ ⟨y4,xg,o9⟩
       refine Zf (Zc 1 [] [(72,.b (decide ((k_2:Int)<((List.replicate ((w64 (r2+1)).toNat) (0:Int)).length:Int))))] {} (Z1 (TC.cond (decide ((k_2:Int)<((List.replicate ((w64 (r2+1)).toNat) (0:Int)).length:Int))) rfl Kr (fun h3=>?_) (fun h3=>?_))))
       ·have zk:k_2<((w64 (r2+1)).toNat):=by have:=of_decide_eq_true h3;first|omega|(simp at this;omega)
        have zr:((w64 (r2+1)).toNat)-k_2=(((w64 (r2+1)).toNat)-(k_2+1))+1:=by omega
        exact Yg (TC.seq (TC.block (Zf (Zc 2 [] [(21,.i (k_2:Int))] {} (Zb rfl (TC.region (Zc 2 [] [(74,.slice A_5 low.length c_5),(75,.i (k_2:Int))] {} (TL.v (sV (Instr.indexAt 22 (.slice A_5 low.length c_5) (.i (k_2:Int)))) 76 (.pointer (some (Ix A_5 (k_2*1)))) (fun w hM=>Zr (hM.rd_at 0 rfl) (by simp) Kr sd sd) {} (KF (Γ:=Unit) (sU (Instr.storeAt 3 (.pointer (some ((Ix A_5 (k_2*1)).add 0))) (.i 1152921504606846976))) 0 (Ow A_5 c_5 3 1 ((low.set k_2 1152921504606846976).map ic)) (Y2 (n:=1) (off:=0) (.i 1152921504606846976) 0 ((low.set k_2 1152921504606846976).map ic) rfl (Z6 (getD_at _ _ 0 sd)) Kr Kr Kr Kr (YJ Kr)) Kr (TL.rw 20 (.slice A_5 low.length c_5) (.slice A_5 ((low.set k_2 1152921504606846976).length) c_5) Kr (by simp only[aL]) (Zw rfl (ZY (Z3 (TC.region (Zc 2 [] [(71,.i (w64 ((k_2:Int)+1)))] {} (Zw rfl (TE.rw 71 (.i (w64 ((k_2:Int)+1))) (.i ((k_2+1:Nat):Int)) Kr (ZD k_2 (by omega)) (Z4 (x:=(k_2,low)) (k_2+1,(low.set k_2 1152921504606846976)) ⟨by omega,xg.trans (by subst hr1 hr2;rw[zr];exact rfl),sl⟩ (mN zk) Kr (sb 511)))))))))))))))))))
       ·have zr:((w64 (r2+1)).toNat)-k_2=0:=by have:=of_decide_eq_false h3;first|omega|(simp at this;omega)
        refine TC.exit (ZT (ZT (Z0 ?_)))
        exact TE.cut low (⟨xg.trans (by subst hr1 hr2;rw[zr];exact rfl),sl⟩) Kr (sb 511)
      ·rintro jx ⟨jv,bp⟩
       refine YC (Zc 2 [] [(79,.i (w64 (r2+1)))] {} (TL.rw 79 (.i (w64 (r2+1))) (.i (((w64 (r2+1)).toNat:Nat):Int)) Kr (int_eq (bN sd).symm) (TL.on (Γ:=AN) (sV (Instr.makeSlice 137 (.i (((w64 (r2+1)).toNat:Nat):Int)) (.i (((w64 (r2+1)).toNat:Nat):Int)))) 80 (fun g=>.slice g.1 (List.replicate ((w64 (r2+1)).toNat) false).length g.2) (fun g=>Ow g.1 g.2 4 1 ((List.replicate ((w64 (r2+1)).toNat) false).map bc)) (KX (P:=Tryz.prog) (c:=bc) (t:=137) (e:=4) (sz:=1) (bytes:=1) false .i64 .i64 ((w64 (r2+1)).toNat) Kr Kr sd sd) {} ?_)))
       rintro⟨A_6,c_6⟩
       refine Zc 4 [] [(22,.slice A_6 ((List.replicate ((w64 (r2+1)).toNat) false).length) c_6)] {} (Z1 ?_)
       obtain⟨R9,yd⟩:∃ R,QB qb qc from_ taken r2 k row 100 0 u v way jx (List.replicate ((w64 (r2+1)).toNat) false)=some R:=S7 ks_ vc hlt xo jv
       refine TC.cut (S:=Int×(List Int)×(List Int)×(List Int)×(List Int)×(List Bool)) (fun (yj,u_4,v_4,xf,pn,zw)=>[(10,.i r1),(12,.i r2),(13,.func (.func 154) #[] #[.p0 b4,.p0 b1,.p0 b2,.p0 b3]),(14,.slice A u_4.length c),(15,.slice A_2 v_4.length c_2),(16,.slice A_3 ((row.set 0 (1+(k:Int))).length) c_3),(17,.slice A_4 xf.length c_4),(18,.i (1+(k:Int))),(19,.i yj)]) (fun (yj,u_4,v_4,xf,pn,zw)=>[Ow A_3 c_3 3 1 ((row.set 0 (1+(k:Int))).map ic),Ow A_4 c_4 3 1 (xf.map ic),Ow A c 3 1 (u_4.map ic),Ow A_2 c_2 3 1 (v_4.map ic),Bk b4 #[.i (((qb.drop from_.toNat)[0]?.getD []).length:Int)] 3,Bk b3 #[.slice A1 ((qb.drop from_.toNat).length) (qo-from_.toNat)] 132,Bk b2 #[.slice A_taken taken.length xk] 137,Bk b1 #[.i qc] 3]) (fun (yj,u_4,v_4,xf,pn,zw)=>R9=(yj,u_4,v_4,xf,pn,zw)∧u_4.length=u.length∧v_4.length=v.length∧xf.length=way.length∧pn.length=jx.length∧zw.length=((w64 (r2+1)).toNat)∧(Found qb qc from_ taken r1 r2 k row yj u_4 v_4 xf pn zw)) ?_ ?_
       ·refine TC.block (Xp (X:=Nat×Int×(List Int)×(List Int)×(List Int)×(List Int)×(List Bool)) (fun (m,at_,u_3,v_3,ke,kf,used)=>[(10,.i r1),(12,.i r2),(13,.func (.func 154) #[] #[.p0 b4,.p0 b1,.p0 b2,.p0 b3]),(14,.slice A u_3.length c),(15,.slice A_2 v_3.length c_2),(16,.slice A_3 ((row.set 0 (1+(k:Int))).length) c_3),(17,.slice A_4 ke.length c_4),(18,.i (1+(k:Int))),(19,.i at_),(20,.slice A_5 kf.length c_5),(22,.slice A_6 used.length c_6)]) (fun (m,at_,u_3,v_3,ke,kf,used)=>[Ow A_6 c_6 4 1 (used.map bc),Ow A_5 c_5 3 1 (kf.map ic),Ow A_3 c_3 3 1 ((row.set 0 (1+(k:Int))).map ic),Ow A_4 c_4 3 1 (ke.map ic),Ow A c 3 1 (u_3.map ic),Ow A_2 c_2 3 1 (v_3.map ic),Bk b4 #[.i (((qb.drop from_.toNat)[0]?.getD []).length:Int)] 3,Bk b3 #[.slice A1 ((qb.drop from_.toNat).length) (qo-from_.toNat)] 132,Bk b2 #[.slice A_taken taken.length xk] 137,Bk b1 #[.i qc] 3]) (fun (m,at_,u_3,v_3,ke,kf,used)=>m) (fun (m,at_,u_3,v_3,ke,kf,used)=>m≤100∧QB qb qc from_ taken r2 k row m at_ u_3 v_3 ke kf used=some R9∧u_3.length=u.length∧v_3.length=v.length∧ke.length=way.length∧kf.length=jx.length∧used.length=((w64 (r2+1)).toNat)∧(Rnd qb qc from_ taken r1 r2 k row at_ u_3 v_3 ke kf used)) ?_ (100,0,u,v,way,jx,(List.replicate ((w64 (r2+1)).toNat) false)) ⟨aU _,yd,sz,sz,sz,sz,sz,(S5 ks_ vc hlt xo jv)⟩ Kr (sb 1023))
        rintro⟨m,at_,u_3,v_3,ke,kf,used⟩ ⟨ln,kr,hl_u_3,hl_v_3,bq,bw,fv,y9⟩
        have ki_:=RQ ks_ vc hlt y9
        rcases m with _|m
        ·cases kr
        refine TC.block (Zf (Zc 2 [] [(81,.slice A_6 used.length c_6),(82,.i at_)] {} (TL.v (sV (Instr.indexAt 137 (.slice A_6 used.length c_6) (.i at_))) 83 (.pointer (some (Ix A_6 (at_.toNat*1)))) (fun w hM=>Zr (hM.rd_at 0 rfl) (by simp) Kr sd sd) {} (KF (Γ:=Unit) (sU (Instr.storeAt 4 (.pointer (some ((Ix A_6 (at_.toNat*1)).add 0))) (.b true))) 0 (Ow A_6 c_6 4 1 ((used.set at_.toNat true).map bc)) (Y2 (n:=1) (off:=0) (.b true) 0 ((used.set at_.toNat true).map bc) rfl (Z6 (getD_at _ _ false sd)) Kr Kr Kr Kr (YJ Kr)) Kr (TL.rw 22 (.slice A_6 used.length c_6) (.slice A_6 ((used.set at_.toNat true).length) c_6) Kr (by simp only[aL]) (Zz (Zc 2 [] [(84,.slice A_3 ((row.set 0 (1+(k:Int))).length) c_3),(85,.i at_)] {} (TL.v (sV (Instr.indexAt 22 (.slice A_3 ((row.set 0 (1+(k:Int))).length) c_3) (.i at_))) 86 (.pointer (some (Ix A_3 (at_.toNat*1)))) (fun w hM=>Zr (hM.rd_at 2 rfl) (by simp) Kr sd sd) {} (TL.v (sV (Instr.loadAt 3 (.pointer (some (Ix A_3 (at_.toNat*1)))))) 87 (.i ((row.set 0 (1+(k:Int)))[at_.toNat]?.getD 0)) (fun w hM=>Zu (off:=0) (i:=at_.toNat) (.i ((row.set 0 (1+(k:Int)))[at_.toNat]?.getD 0)) (hM.rd_at 2 rfl) (Z6 (getD_at _ _ 0 sd)) Kr Kr) {} (Zc 7 [] [(23,.i ((row.set 0 (1+(k:Int)))[at_.toNat]?.getD 0)),(24,.i 1152921504606846976),(25,.i 0)] {} (Z1 (Zf (Zc 1 [] [(26,.i 1)] {} (Zb rfl ?_))))))))))))))
        obtain⟨R10,gd⟩:∃ R,R=Xa qb qc from_ taken k row at_ u_3 v_3 used r2.toNat 0 1152921504606846976 0 ke kf:=⟨_,rfl⟩
        refine TC.cut (S:=Int×Int×(List Int)×(List Int)) (fun (ze,zx,kg,k6)=>[(10,.i r1),(12,.i r2),(13,.func (.func 154) #[] #[.p0 b4,.p0 b1,.p0 b2,.p0 b3]),(14,.slice A u_3.length c),(15,.slice A_2 v_3.length c_2),(16,.slice A_3 ((row.set 0 (1+(k:Int))).length) c_3),(17,.slice A_4 kg.length c_4),(18,.i (1+(k:Int))),(20,.slice A_5 k6.length c_5),(22,.slice A_6 ((used.set at_.toNat true).length) c_6),(24,.i ze),(25,.i zx)]) (fun (ze,zx,kg,k6)=>[Ow A_6 c_6 4 1 ((used.set at_.toNat true).map bc),Ow A_5 c_5 3 1 (k6.map ic),Ow A_3 c_3 3 1 ((row.set 0 (1+(k:Int))).map ic),Ow A_4 c_4 3 1 (kg.map ic),Ow A c 3 1 (u_3.map ic),Ow A_2 c_2 3 1 (v_3.map ic),Bk b4 #[.i (((qb.drop from_.toNat)[0]?.getD []).length:Int)] 3,Bk b3 #[.slice A1 ((qb.drop from_.toNat).length) (qo-from_.toNat)] 132,Bk b2 #[.slice A_taken taken.length xk] 137,Bk b1 #[.i qc] 3]) (fun (ze,zx,kg,k6)=>R10=(ze,zx,kg,k6)∧kg.length=ke.length∧k6.length=kf.length) ?_ ?_
        ·refine TC.block (TC.rw 26 (.i 1) (.i (1+((0:Nat):Int))) Kr (int_eq (by first|omega|(rw[Zt (by omega)];omega)|(simp only[Xi];omega))) (Xp (X:=Nat×Int×Int×(List Int)×(List Int)) (fun (k_3,delta,next,jb,xm)=>[(10,.i r1),(12,.i r2),(13,.func (.func 154) #[] #[.p0 b4,.p0 b1,.p0 b2,.p0 b3]),(14,.slice A u_3.length c),(15,.slice A_2 v_3.length c_2),(16,.slice A_3 ((row.set 0 (1+(k:Int))).length) c_3),(17,.slice A_4 jb.length c_4),(18,.i (1+(k:Int))),(19,.i at_),(20,.slice A_5 xm.length c_5),(22,.slice A_6 ((used.set at_.toNat true).length) c_6),(23,.i ((row.set 0 (1+(k:Int)))[at_.toNat]?.getD 0)),(24,.i delta),(25,.i next),(26,.i (1+(k_3:Int)))]) (fun (k_3,delta,next,jb,xm)=>[Ow A_6 c_6 4 1 ((used.set at_.toNat true).map bc),Ow A_5 c_5 3 1 (xm.map ic),Ow A_3 c_3 3 1 ((row.set 0 (1+(k:Int))).map ic),Ow A_4 c_4 3 1 (jb.map ic),Ow A c 3 1 (u_3.map ic),Ow A_2 c_2 3 1 (v_3.map ic),Bk b4 #[.i (((qb.drop from_.toNat)[0]?.getD []).length:Int)] 3,Bk b3 #[.slice A1 ((qb.drop from_.toNat).length) (qo-from_.toNat)] 132,Bk b2 #[.slice A_taken taken.length xk] 137,Bk b1 #[.i qc] 3]) (fun (k_3,delta,next,jb,xm)=>r2.toNat-k_3) (fun (k_3,delta,next,jb,xm)=>k_3≤r2.toNat∧R10=Xa qb qc from_ taken k row at_ u_3 v_3 used (r2.toNat-k_3) k_3 delta next jb xm∧jb.length=ke.length∧xm.length=kf.length) ?_ (0,1152921504606846976,0,ke,kf) ⟨aP _,gd,sz,sz⟩ Kr (sb 1023)))
         rintro⟨k_3,delta,next,jb,xm⟩ ⟨hk_4,fo,bz,ed⟩
         refine TC.seq (Zf (Zc 3 [] [(90,.b (decide ((1+(k_3:Int))≤r2)))] {} (Zb rfl (TC.cond (decide ((1+(k_3:Int))≤r2)) rfl Kr (fun h4=>?_) (fun h4=>?_)))))
         ·have pq:k_3<r2.toNat:=by have p0_:=(ZF h4);first|omega|(simp only[Xi] at *;omega)
          have gf:r2.toNat-k_3=(r2.toNat-(k_3+1))+1:=by omega
          have yq:=(ZF h4)
          refine Yg (TC.seq (TC.block (TC.seq (Zf (Zc 2 [] [(93,.slice A_6 ((used.set at_.toNat true).length) c_6),(94,.i (1+(k_3:Int)))] {} (TL.v (sV (Instr.indexAt 137 (.slice A_6 ((used.set at_.toNat true).length) c_6) (.i (1+(k_3:Int))))) 95 (.pointer (some ((A_6.getD Yz).add ((1+(k_3:Int)).toNat*1)))) (fun w hM=>Zr (hM.rd_at 0 rfl) (by simp) Kr sd sd) {} (TL.v (sV (Instr.loadAt 4 (.pointer (some ((A_6.getD Yz).add ((1+(k_3:Int)).toNat*1)))))) 96 (.b (((used.set at_.toNat true)[(1+(k_3:Int)).toNat]?.getD false))) (fun w hM=>Zu (off:=0) (i:=(1+(k_3:Int)).toNat) (.b (((used.set at_.toNat true)[(1+(k_3:Int)).toNat]?.getD false))) (hM.rd_at 0 rfl) (Z6 (getD_at _ _ false sd)) Kr Kr) {} (Zb rfl (TC.cond (((used.set at_.toNat true)[(1+(k_3:Int)).toNat]?.getD false)) rfl Kr (fun h5=>?_) (fun h5=>?_))))))))))
          ·refine TC.exit (ZT (Z0 ?_))
           exact Z3 (TC.region (Zc 3 [] [(26,.i (w64 ((1+(k_3:Int))+1)))] {} (Zw rfl (TE.rw 26 (.i (w64 ((1+(k_3:Int))+1))) (.i (1+((k_3+1:Nat):Int))) Kr (int_eq (by first|omega|(rw[Zt (by omega)];omega)|(simp only[Xi] at *;omega))) (Z4 (x:=(k_3,delta,next,jb,xm)) (k_3+1,delta,next,jb,xm) ⟨by omega,fo.trans (by subst hr1 hr2;rw[gf];exact Zm h5 (rfl)),sl,sl⟩ (mN pq) Kr (sb 1023))))))
          ·refine Yg (TC.seq (TC.seq (Kx 17 Kr Kr Kr (YY 5 [] [(97,.func (.func 154) #[] #[.p0 b4,.p0 b1,.p0 b2,.p0 b3]),(99,.i (w64 (((row.set 0 (1+(k:Int)))[at_.toNat]?.getD 0)-1))),(101,.i (w64 ((1+(k_3:Int))-1)))] {} (TQ.c 102 (YQ (w64 (((row.set 0 (1+(k:Int)))[at_.toNat]?.getD 0)-1)) (w64 ((1+(k_3:Int))-1)) (((qb.drop from_.toNat)[0]?.getD []).length:Int) qc taken (qb.drop from_.toNat)) (fun r3=>.i r3) (fun w hM=>UF (w64 (((row.set 0 (1+(k:Int)))[at_.toNat]?.getD 0)-1)) (w64 ((1+(k_3:Int))-1)) ⟨b4,0,none⟩ (((qb.drop from_.toNat)[0]?.getD []).length:Int) ⟨b1,0,none⟩ qc ⟨b2,0,none⟩ A_taken xk taken ⟨b3,0,none⟩ A1 (qo-from_.toNat) (qb.drop from_.toNat) (qq.drop from_.toNat) w (Rd.lit hM 6 _ rfl Kr Kr Kr) (Rd.lit hM 9 _ rfl Kr Kr Kr) (Rd.lit hM 8 _ rfl Kr Kr Kr) ⟨(ga.sat hM),gz⟩ (Rd.lit hM 7 _ rfl Kr Kr Kr) (hR1.sat hM) hC1 (fun s hs=>((Nv xa from_.toNat) s hs).sat hM) (GL qz from_.toNat) (by first|exact UV ks_ htk (RQ ks_ vc hlt y9).2 (by have:=(ZF h4);omega)|exact UV ks_ htk (by have q_:=NE ks_ kz (j:=(1+(k_5:Int)).toNat) (by have:=(ZF h12);have:=ks_.facts;omega);have:=(ZF h13);omega) (by have:=(ZF h12);omega))) rfl {} (fun r3 hr3=>YY 8 [] [(103,.slice A u_3.length c),(104,.i ((row.set 0 (1+(k:Int)))[at_.toNat]?.getD 0))] {} (TQ.v (sV (Instr.indexAt 22 (.slice A u_3.length c) (.i ((row.set 0 (1+(k:Int)))[at_.toNat]?.getD 0)))) 105 (.pointer (some ((A.getD Yz).add (((row.set 0 (1+(k:Int)))[at_.toNat]?.getD 0).toNat*1)))) (fun w hM=>Zr (hM.rd_at 4 rfl) (by simp) Kr sd sd) rfl {} (TQ.v (sV (Instr.loadAt 3 (.pointer (some ((A.getD Yz).add (((row.set 0 (1+(k:Int)))[at_.toNat]?.getD 0).toNat*1)))))) 106 (.i (u_3[((row.set 0 (1+(k:Int)))[at_.toNat]?.getD 0).toNat]?.getD 0)) (fun w hM=>Zu (off:=0) (i:=((row.set 0 (1+(k:Int)))[at_.toNat]?.getD 0).toNat) (.i (u_3[((row.set 0 (1+(k:Int)))[at_.toNat]?.getD 0).toNat]?.getD 0)) (hM.rd_at 4 rfl) (Z6 (getD_at _ _ 0 sd)) Kr Kr) rfl {} (YY 13 [] [(107,.i (w64 (r3-(u_3[((row.set 0 (1+(k:Int)))[at_.toNat]?.getD 0).toNat]?.getD 0)))),(108,.slice A_2 v_3.length c_2),(109,.i (1+(k_3:Int)))] {} (TQ.v (sV (Instr.indexAt 22 (.slice A_2 v_3.length c_2) (.i (1+(k_3:Int))))) 110 (.pointer (some ((A_2.getD Yz).add ((1+(k_3:Int)).toNat*1)))) (fun w hM=>Zr (hM.rd_at 5 rfl) (by simp) Kr sd sd) rfl {} (TQ.v (sV (Instr.loadAt 3 (.pointer (some ((A_2.getD Yz).add ((1+(k_3:Int)).toNat*1)))))) 111 (.i (v_3[(1+(k_3:Int)).toNat]?.getD 0)) (fun w hM=>Zu (off:=0) (i:=(1+(k_3:Int)).toNat) (.i (v_3[(1+(k_3:Int)).toNat]?.getD 0)) (hM.rd_at 5 rfl) (Z6 (getD_at _ _ 0 sd)) Kr Kr) rfl {} (YY 17 [] [(27,.i (w64 ((w64 (r3-(u_3[((row.set 0 (1+(k:Int)))[at_.toNat]?.getD 0).toNat]?.getD 0)))-(v_3[(1+(k_3:Int)).toNat]?.getD 0))))] {} (Q1 rfl (Zf (Zc 3 [] [(113,.i (w64 ((w64 (r3-(u_3[((row.set 0 (1+(k:Int)))[at_.toNat]?.getD 0).toNat]?.getD 0)))-(v_3[(1+(k_3:Int)).toNat]?.getD 0)))),(114,.slice A_5 xm.length c_5),(115,.i (1+(k_3:Int)))] {} (TL.v (sV (Instr.indexAt 22 (.slice A_5 xm.length c_5) (.i (1+(k_3:Int))))) 116 (.pointer (some ((A_5.getD Yz).add ((1+(k_3:Int)).toNat*1)))) (fun w hM=>Zr (hM.rd_at 1 rfl) (by simp) Kr sd sd) {} (TL.v (sV (Instr.loadAt 3 (.pointer (some ((A_5.getD Yz).add ((1+(k_3:Int)).toNat*1)))))) 117 (.i (xm[(1+(k_3:Int)).toNat]?.getD 0)) (fun w hM=>Zu (off:=0) (i:=(1+(k_3:Int)).toNat) (.i (xm[(1+(k_3:Int)).toNat]?.getD 0)) (hM.rd_at 1 rfl) (Z6 (getD_at _ _ 0 sd)) Kr Kr) {} (Zc 6 [] [(118,.b (decide ((w64 ((w64 (r3-(u_3[((row.set 0 (1+(k:Int)))[at_.toNat]?.getD 0).toNat]?.getD 0)))-(v_3[(1+(k_3:Int)).toNat]?.getD 0)))<(xm[(1+(k_3:Int)).toNat]?.getD 0))))] {} (Zb rfl ?_)))))))))))))))))))
           refine TC.cut (S:=(List Int)×(List Int)) (fun (wm,jn)=>[(10,.i r1),(12,.i r2),(13,.func (.func 154) #[] #[.p0 b4,.p0 b1,.p0 b2,.p0 b3]),(14,.slice A u_3.length c),(15,.slice A_2 v_3.length c_2),(16,.slice A_3 ((row.set 0 (1+(k:Int))).length) c_3),(17,.slice A_4 wm.length c_4),(18,.i (1+(k:Int))),(19,.i at_),(20,.slice A_5 jn.length c_5),(22,.slice A_6 ((used.set at_.toNat true).length) c_6),(23,.i ((row.set 0 (1+(k:Int)))[at_.toNat]?.getD 0)),(24,.i delta),(25,.i next),(26,.i (1+(k_3:Int)))]) (fun (wm,jn)=>[Ow A_6 c_6 4 1 ((used.set at_.toNat true).map bc),Ow A_5 c_5 3 1 (jn.map ic),Ow A_3 c_3 3 1 ((row.set 0 (1+(k:Int))).map ic),Ow A_4 c_4 3 1 (wm.map ic),Ow A c 3 1 (u_3.map ic),Ow A_2 c_2 3 1 (v_3.map ic),Bk b4 #[.i (((qb.drop from_.toNat)[0]?.getD []).length:Int)] 3,Bk b3 #[.slice A1 ((qb.drop from_.toNat).length) (qo-from_.toNat)] 132,Bk b2 #[.slice A_taken taken.length xk] 137,Bk b1 #[.i qc] 3]) (fun (wm,jn)=>(cond (decide ((w64 ((w64 (r3-(u_3[((row.set 0 (1+(k:Int)))[at_.toNat]?.getD 0).toNat]?.getD 0)))-(v_3[(1+(k_3:Int)).toNat]?.getD 0)))<(xm[(1+(k_3:Int)).toNat]?.getD 0))) (
            ((jb.set ((1+(k_3:Int)).toNat) at_),(xm.set ((1+(k_3:Int)).toNat) (w64 ((w64 (r3-(u_3[((row.set 0 (1+(k:Int)))[at_.toNat]?.getD 0).toNat]?.getD 0)))-(v_3[(1+(k_3:Int)).toNat]?.getD 0)))))) (
            (jb,xm)))=(wm,jn)∧(wm.length=jb.length)∧(jn.length=xm.length)) ?_ ?_
           ·refine TC.cond (decide ((w64 ((w64 (r3-(u_3[((row.set 0 (1+(k:Int)))[at_.toNat]?.getD 0).toNat]?.getD 0)))-(v_3[(1+(k_3:Int)).toNat]?.getD 0)))<(xm[(1+(k_3:Int)).toNat]?.getD 0))) rfl Kr (fun h6=>?_) (fun h6=>?_)
            ·have y3:=(ZF h6)
             exact TC.region (Zc 6 [] [(119,.slice A_5 xm.length c_5),(120,.i (1+(k_3:Int))),(121,.slice A_4 jb.length c_4),(122,.i (1+(k_3:Int))),(123,.i (w64 ((w64 (r3-(u_3[((row.set 0 (1+(k:Int)))[at_.toNat]?.getD 0).toNat]?.getD 0)))-(v_3[(1+(k_3:Int)).toNat]?.getD 0)))),(124,.i at_)] {} (TL.v (sV (Instr.indexAt 22 (.slice A_5 xm.length c_5) (.i (1+(k_3:Int))))) 125 (.pointer (some ((A_5.getD Yz).add ((1+(k_3:Int)).toNat*1)))) (fun w hM=>Zr (hM.rd_at 1 rfl) (by simp) Kr sd sd) {} (KF (Γ:=Unit) (sU (Instr.storeAt 3 (.pointer (some (((A_5.getD Yz).add ((1+(k_3:Int)).toNat*1)).add 0))) (.i (w64 ((w64 (r3-(u_3[((row.set 0 (1+(k:Int)))[at_.toNat]?.getD 0).toNat]?.getD 0)))-(v_3[(1+(k_3:Int)).toNat]?.getD 0)))))) 1 (Ow A_5 c_5 3 1 ((xm.set ((1+(k_3:Int)).toNat) (w64 ((w64 (r3-(u_3[((row.set 0 (1+(k:Int)))[at_.toNat]?.getD 0).toNat]?.getD 0)))-(v_3[(1+(k_3:Int)).toNat]?.getD 0)))).map ic)) (Y2 (n:=1) (off:=0) (.i (w64 ((w64 (r3-(u_3[((row.set 0 (1+(k:Int)))[at_.toNat]?.getD 0).toNat]?.getD 0)))-(v_3[(1+(k_3:Int)).toNat]?.getD 0)))) 1 ((xm.set ((1+(k_3:Int)).toNat) (w64 ((w64 (r3-(u_3[((row.set 0 (1+(k:Int)))[at_.toNat]?.getD 0).toNat]?.getD 0)))-(v_3[(1+(k_3:Int)).toNat]?.getD 0)))).map ic) rfl (Z6 (getD_at _ _ 0 sd)) Kr Kr Kr Kr (YJ Kr)) Kr (TL.rw 20 (.slice A_5 xm.length c_5) (.slice A_5 ((xm.set ((1+(k_3:Int)).toNat) (w64 ((w64 (r3-(u_3[((row.set 0 (1+(k:Int)))[at_.toNat]?.getD 0).toNat]?.getD 0)))-(v_3[(1+(k_3:Int)).toNat]?.getD 0)))).length) c_5) Kr (by simp only[aL]) (TL.v (sV (Instr.indexAt 22 (.slice A_4 jb.length c_4) (.i (1+(k_3:Int))))) 126 (.pointer (some ((A_4.getD Yz).add ((1+(k_3:Int)).toNat*1)))) (fun w hM=>Zr (hM.rd_at 3 rfl) (by simp) Kr sd sd) {} (KF (Γ:=Unit) (sU (Instr.storeAt 3 (.pointer (some (((A_4.getD Yz).add ((1+(k_3:Int)).toNat*1)).add 0))) (.i at_))) 3 (Ow A_4 c_4 3 1 ((jb.set ((1+(k_3:Int)).toNat) at_).map ic)) (Y2 (n:=1) (off:=0) (.i at_) 3 ((jb.set ((1+(k_3:Int)).toNat) at_).map ic) rfl (Z6 (getD_at _ _ 0 sd)) Kr Kr Kr Kr (YJ Kr)) Kr (TL.rw 17 (.slice A_4 jb.length c_4) (.slice A_4 ((jb.set ((1+(k_3:Int)).toNat) at_).length) c_4) Kr (by simp only[aL]) (Zw rfl (TE.cut ((jb.set ((1+(k_3:Int)).toNat) at_),(xm.set ((1+(k_3:Int)).toNat) (w64 ((w64 (r3-(u_3[((row.set 0 (1+(k:Int)))[at_.toNat]?.getD 0).toNat]?.getD 0)))-(v_3[(1+(k_3:Int)).toNat]?.getD 0))))) ⟨(by subst hr1 hr2 hr3;exact Zm h6 (rfl)),(by simp),(by simp)⟩ Kr (sb 1023))))))))))
            ·have y3:=(Zv h6)
             exact TC.skip (TE.cut (jb,xm) ⟨(by subst hr1 hr2 hr3;exact Ze h6 (rfl)),(by simp),(by simp)⟩ Kr (sb 1023))
           ·rintro⟨wm,jn⟩ ⟨rz,mh,ml⟩
            refine YC (Zc 2 [] [(127,.slice A_5 jn.length c_5),(128,.i (1+(k_3:Int)))] {} (TL.v (sV (Instr.indexAt 22 (.slice A_5 jn.length c_5) (.i (1+(k_3:Int))))) 129 (.pointer (some ((A_5.getD Yz).add ((1+(k_3:Int)).toNat*1)))) (fun w hM=>Zr (hM.rd_at 1 rfl) (by simp) Kr sd sd) {} (TL.v (sV (Instr.loadAt 3 (.pointer (some ((A_5.getD Yz).add ((1+(k_3:Int)).toNat*1)))))) 130 (.i (jn[(1+(k_3:Int)).toNat]?.getD 0)) (fun w hM=>Zu (off:=0) (i:=(1+(k_3:Int)).toNat) (.i (jn[(1+(k_3:Int)).toNat]?.getD 0)) (hM.rd_at 1 rfl) (Z6 (getD_at _ _ 0 sd)) Kr Kr) {} (Zc 6 [] [(132,.b (decide ((jn[(1+(k_3:Int)).toNat]?.getD 0)<delta)))] {} (Zb rfl (TC.cond (decide ((jn[(1+(k_3:Int)).toNat]?.getD 0)<delta)) rfl Kr (fun h7=>?_) (fun h7=>?_)))))))
            ·have yr:=(ZF h7)
             exact TC.region (Zc 2 [] [(133,.slice A_5 jn.length c_5),(134,.i (1+(k_3:Int)))] {} (TL.v (sV (Instr.indexAt 22 (.slice A_5 jn.length c_5) (.i (1+(k_3:Int))))) 135 (.pointer (some ((A_5.getD Yz).add ((1+(k_3:Int)).toNat*1)))) (fun w hM=>Zr (hM.rd_at 1 rfl) (by simp) Kr sd sd) {} (TL.v (sV (Instr.loadAt 3 (.pointer (some ((A_5.getD Yz).add ((1+(k_3:Int)).toNat*1)))))) 136 (.i (jn[(1+(k_3:Int)).toNat]?.getD 0)) (fun w hM=>Zu (off:=0) (i:=(1+(k_3:Int)).toNat) (.i (jn[(1+(k_3:Int)).toNat]?.getD 0)) (hM.rd_at 1 rfl) (Z6 (getD_at _ _ 0 sd)) Kr Kr) {} (Zc 7 [] [(24,.i (jn[(1+(k_3:Int)).toNat]?.getD 0)),(25,.i (1+(k_3:Int)))] {} (Zw rfl (ZY (Z3 (TC.region (Zc 3 [] [(26,.i (w64 ((1+(k_3:Int))+1)))] {} (Zw rfl (TE.rw 26 (.i (w64 ((1+(k_3:Int))+1))) (.i (1+((k_3+1:Nat):Int))) Kr (int_eq (by first|omega|(rw[Zt (by omega)];omega)|(simp only[Xi] at *;omega))) (Z4 (x:=(k_3,delta,next,jb,xm)) (k_3+1,(jn[(1+(k_3:Int)).toNat]?.getD 0),(1+(k_3:Int)),wm,jn) ⟨by omega,fo.trans (by subst hr1 hr2 hr3;rw[gf];exact Ze h5 (Yr (rz) (Zm h7 (rfl)))),sl,sl⟩ (mN pq) Kr (sb 1023)))))))))))))
            ·have yr:=(Zv h7)
             exact TC.skip (ZY (Z3 (TC.region (Zc 3 [] [(26,.i (w64 ((1+(k_3:Int))+1)))] {} (Zw rfl (TE.rw 26 (.i (w64 ((1+(k_3:Int))+1))) (.i (1+((k_3+1:Nat):Int))) Kr (int_eq (by first|omega|(rw[Zt (by omega)];omega)|(simp only[Xi] at *;omega))) (Z4 (x:=(k_3,delta,next,jb,xm)) (k_3+1,delta,next,wm,jn) ⟨by omega,fo.trans (by subst hr1 hr2 hr3;rw[gf];exact Ze h5 (Yr (rz) (Ze h7 (rfl)))),sl,sl⟩ (mN pq) Kr (sb 1023))))))))
         ·have gf:r2.toNat-k_3=0:=by have p0_:=(Zv h4);first|omega|(simp only[Xi] at *;omega)
          refine TC.exit (ZT (ZT (Z0 ?_)))
          exact TE.cut (delta,next,jb,xm) (⟨fo.trans (by subst hr1 hr2;rw[gf];exact rfl),sl,sl⟩) Kr (sb 1023)
        ·rintro⟨ze,zx,kg,k6⟩ ⟨gg,ee,ef⟩
         have kn_:=Ey ks_ vc hlt y9 gd gg
         refine Z3 (TC.seq (Zf (Zc 3 [] [(139,.i ((used.set at_.toNat true).length:Int)),(140,.i 0)] {} (Zb rfl ?_))))
         obtain⟨R11,ss⟩:∃ R,R=X7 k row ze (used.set at_.toNat true) 0 u_3 v_3 k6:=⟨_,rfl⟩
         refine TC.cut (S:=(List Int)×(List Int)×(List Int)) (fun (u_6,v_6,wo)=>[(10,.i r1),(12,.i r2),(13,.func (.func 154) #[] #[.p0 b4,.p0 b1,.p0 b2,.p0 b3]),(14,.slice A u_6.length c),(15,.slice A_2 v_6.length c_2),(16,.slice A_3 ((row.set 0 (1+(k:Int))).length) c_3),(17,.slice A_4 kg.length c_4),(18,.i (1+(k:Int))),(20,.slice A_5 wo.length c_5),(22,.slice A_6 ((used.set at_.toNat true).length) c_6),(25,.i zx)]) (fun (u_6,v_6,wo)=>[Ow A_6 c_6 4 1 ((used.set at_.toNat true).map bc),Ow A_5 c_5 3 1 (wo.map ic),Ow A_3 c_3 3 1 ((row.set 0 (1+(k:Int))).map ic),Ow A_4 c_4 3 1 (kg.map ic),Ow A c 3 1 (u_6.map ic),Ow A_2 c_2 3 1 (v_6.map ic),Bk b4 #[.i (((qb.drop from_.toNat)[0]?.getD []).length:Int)] 3,Bk b3 #[.slice A1 ((qb.drop from_.toNat).length) (qo-from_.toNat)] 132,Bk b2 #[.slice A_taken taken.length xk] 137,Bk b1 #[.i qc] 3]) (fun (u_6,v_6,wo)=>R11=(u_6,v_6,wo)∧u_6.length=u_3.length∧v_6.length=v_3.length∧wo.length=k6.length) ?_ ?_
         ·refine TC.block (Xp (X:=Nat×(List Int)×(List Int)×(List Int)) (fun (k_4,u_5,v_5,xn)=>[(10,.i r1),(12,.i r2),(13,.func (.func 154) #[] #[.p0 b4,.p0 b1,.p0 b2,.p0 b3]),(14,.slice A u_5.length c),(15,.slice A_2 v_5.length c_2),(16,.slice A_3 ((row.set 0 (1+(k:Int))).length) c_3),(17,.slice A_4 kg.length c_4),(18,.i (1+(k:Int))),(20,.slice A_5 xn.length c_5),(22,.slice A_6 ((used.set at_.toNat true).length) c_6),(24,.i ze),(25,.i zx),(139,.i ((used.set at_.toNat true).length:Int)),(140,.i (k_4:Int))]) (fun (k_4,u_5,v_5,xn)=>[Ow A_6 c_6 4 1 ((used.set at_.toNat true).map bc),Ow A_5 c_5 3 1 (xn.map ic),Ow A_3 c_3 3 1 ((row.set 0 (1+(k:Int))).map ic),Ow A_4 c_4 3 1 (kg.map ic),Ow A c 3 1 (u_5.map ic),Ow A_2 c_2 3 1 (v_5.map ic),Bk b4 #[.i (((qb.drop from_.toNat)[0]?.getD []).length:Int)] 3,Bk b3 #[.slice A1 ((qb.drop from_.toNat).length) (qo-from_.toNat)] 132,Bk b2 #[.slice A_taken taken.length xk] 137,Bk b1 #[.i qc] 3]) (fun (k_4,u_5,v_5,xn)=>(used.set at_.toNat true).length-k_4) (fun (k_4,u_5,v_5,xn)=>k_4≤(used.set at_.toNat true).length∧R11=X7 k row ze ((used.set at_.toNat true).drop k_4) k_4 u_5 v_5 xn∧u_5.length=u_3.length∧v_5.length=v_3.length∧xn.length=k6.length) ?_ (0,u_3,v_3,k6) ⟨aP _,ss,sz,sz,sz⟩ Kr (sb 1023))
          rintro⟨k_4,u_5,v_5,xn⟩ ⟨hk_5,l6,hl_u_5,hl_v_5,eh⟩
          refine Zf (Zc 1 [] [(141,.b (decide ((k_4:Int)<((used.set at_.toNat true).length:Int))))] {} (Z1 (TC.cond (decide ((k_4:Int)<((used.set at_.toNat true).length:Int))) rfl Kr (fun h8=>?_) (fun h8=>?_))))
          ·have fw:=ltN h8
           obtain⟨x,eo⟩:=elN fw
           have ku_:=Ez ks_ fw fv;have kr_:=row_in ks_ vc hlt ku_;have i1_:k_4<(row.set 0 (1+(k:Int))).length:=by rw[aL];omega
           have i2_:((row.set 0 (1+(k:Int)))[k_4]?.getD 0).toNat<u_5.length:=by omega
           have i3_:k_4<v_5.length:=by omega
           have i4_:k_4<xn.length:=by omega
           have ta:=drop_at eo
           refine Yg (TC.seq (TC.block (Zf (Zc 2 [] [(28,.i (k_4:Int))] {} (Zz (Zc 2 [] [(143,.slice A_6 ((used.set at_.toNat true).length) c_6),(144,.i (k_4:Int))] {} (TL.v (sV (Instr.indexAt 137 (.slice A_6 ((used.set at_.toNat true).length) c_6) (.i (k_4:Int)))) 145 (.pointer (some (Ix A_6 (k_4*1)))) (fun w hM=>Zr (hM.rd_at 0 rfl) (by simp) Kr sd sd) {} (TL.v (sV (Instr.loadAt 4 (.pointer (some (Ix A_6 (k_4*1)))))) 146 (.b x) (fun w hM=>Zu (off:=0) (i:=k_4) (.b x) (hM.rd_at 0 rfl) (Z6 eo) Kr Kr) {} (Zb rfl (TC.cond x rfl Kr (fun h9=>?_) (fun h9=>?_)))))))))))
           ·exact Zf (Zc 3 [] [(147,.slice A u_5.length c),(148,.slice A_3 ((row.set 0 (1+(k:Int))).length) c_3),(149,.i (k_4:Int))] {} (TL.v (sV (Instr.indexAt 22 (.slice A_3 ((row.set 0 (1+(k:Int))).length) c_3) (.i (k_4:Int)))) 150 (.pointer (some (Ix A_3 (k_4*1)))) (fun w hM=>Zr (hM.rd_at 2 rfl) (by simp) Kr (by first|exact i1_|exact aQ _|exact cB.2 i1_) (by first|exact i1_|exact aQ _|exact cB.2 i1_)) {} (TL.v (sV (Instr.loadAt 3 (.pointer (some (Ix A_3 (k_4*1)))))) 151 (.i ((row.set 0 (1+(k:Int)))[k_4]?.getD 0)) (fun w hM=>Zu (off:=0) (i:=k_4) (.i ((row.set 0 (1+(k:Int)))[k_4]?.getD 0)) (hM.rd_at 2 rfl) (Z6 (getD_at _ _ 0 (by first|exact i1_|exact aQ _|exact cB.2 i1_))) Kr Kr) {} (TL.v (sV (Instr.indexAt 22 (.slice A u_5.length c) (.i ((row.set 0 (1+(k:Int)))[k_4]?.getD 0)))) 152 (.pointer (some ((A.getD Yz).add (((row.set 0 (1+(k:Int)))[k_4]?.getD 0).toNat*1)))) (fun w hM=>Zr (hM.rd_at 4 rfl) (by simp) Kr (by first|exact i2_|exact kr_.1|(have z_:=kr_.1;have z2_:=i2_;omega)) (by first|exact i2_|exact kr_.1|(have z_:=kr_.1;have z2_:=i2_;omega))) {} (TL.v (sV (Instr.loadAt 3 (.pointer (some ((A.getD Yz).add (((row.set 0 (1+(k:Int)))[k_4]?.getD 0).toNat*1)))))) 153 (.i (u_5[((row.set 0 (1+(k:Int)))[k_4]?.getD 0).toNat]?.getD 0)) (fun w hM=>Zu (off:=0) (i:=((row.set 0 (1+(k:Int)))[k_4]?.getD 0).toNat) (.i (u_5[((row.set 0 (1+(k:Int)))[k_4]?.getD 0).toNat]?.getD 0)) (hM.rd_at 4 rfl) (Z6 (getD_at _ _ 0 (by first|exact i2_|exact kr_.1|(have z_:=kr_.1;have z2_:=i2_;omega)))) Kr Kr) {} (Zc 9 [] [(155,.i (w64 ((u_5[((row.set 0 (1+(k:Int)))[k_4]?.getD 0).toNat]?.getD 0)+ze)))] {} (TL.v (sV (Instr.indexAt 22 (.slice A u_5.length c) (.i ((row.set 0 (1+(k:Int)))[k_4]?.getD 0)))) 156 (.pointer (some ((A.getD Yz).add (((row.set 0 (1+(k:Int)))[k_4]?.getD 0).toNat*1)))) (fun w hM=>Zr (hM.rd_at 4 rfl) (by simp) Kr (by first|exact i2_|exact kr_.1|(have z_:=kr_.1;have z2_:=i2_;omega)) (by first|exact i2_|exact kr_.1|(have z_:=kr_.1;have z2_:=i2_;omega))) {} (KF (Γ:=Unit) (sU (Instr.storeAt 3 (.pointer (some (((A.getD Yz).add (((row.set 0 (1+(k:Int)))[k_4]?.getD 0).toNat*1)).add 0))) (.i (w64 ((u_5[((row.set 0 (1+(k:Int)))[k_4]?.getD 0).toNat]?.getD 0)+ze))))) 4 (Ow A c 3 1 ((u_5.set (((row.set 0 (1+(k:Int)))[k_4]?.getD 0).toNat) (w64 ((u_5[((row.set 0 (1+(k:Int)))[k_4]?.getD 0).toNat]?.getD 0)+ze))).map ic)) (Y2 (n:=1) (off:=0) (.i (w64 ((u_5[((row.set 0 (1+(k:Int)))[k_4]?.getD 0).toNat]?.getD 0)+ze))) 4 ((u_5.set (((row.set 0 (1+(k:Int)))[k_4]?.getD 0).toNat) (w64 ((u_5[((row.set 0 (1+(k:Int)))[k_4]?.getD 0).toNat]?.getD 0)+ze))).map ic) rfl (Z6 (getD_at _ _ 0 (by first|exact i2_|exact kr_.1|(have z_:=kr_.1;have z2_:=i2_;omega)))) Kr Kr Kr Kr (YJ Kr)) Kr (TL.rw 14 (.slice A u_5.length c) (.slice A ((u_5.set (((row.set 0 (1+(k:Int)))[k_4]?.getD 0).toNat) (w64 ((u_5[((row.set 0 (1+(k:Int)))[k_4]?.getD 0).toNat]?.getD 0)+ze))).length) c) Kr (by simp only[aL]) (Zb rfl (TC.region (Zc 2 [] [(157,.slice A_2 v_5.length c_2),(158,.i (k_4:Int))] {} (TL.v (sV (Instr.indexAt 22 (.slice A_2 v_5.length c_2) (.i (k_4:Int)))) 159 (.pointer (some (Ix A_2 (k_4*1)))) (fun w hM=>Zr (hM.rd_at 5 rfl) (by simp) Kr (by first|exact i3_|exact aQ _|exact cB.2 i3_) (by first|exact i3_|exact aQ _|exact cB.2 i3_)) {} (TL.v (sV (Instr.loadAt 3 (.pointer (some (Ix A_2 (k_4*1)))))) 160 (.i (v_5[k_4]?.getD 0)) (fun w hM=>Zu (off:=0) (i:=k_4) (.i (v_5[k_4]?.getD 0)) (hM.rd_at 5 rfl) (Z6 (getD_at _ _ 0 (by first|exact i3_|exact aQ _|exact cB.2 i3_))) Kr Kr) {} (Zc 6 [] [(162,.i (w64 ((v_5[k_4]?.getD 0)-ze)))] {} (TL.v (sV (Instr.indexAt 22 (.slice A_2 v_5.length c_2) (.i (k_4:Int)))) 163 (.pointer (some (Ix A_2 (k_4*1)))) (fun w hM=>Zr (hM.rd_at 5 rfl) (by simp) Kr (by first|exact i3_|exact aQ _|exact cB.2 i3_) (by first|exact i3_|exact aQ _|exact cB.2 i3_)) {} (KF (Γ:=Unit) (sU (Instr.storeAt 3 (.pointer (some ((Ix A_2 (k_4*1)).add 0))) (.i (w64 ((v_5[k_4]?.getD 0)-ze))))) 5 (Ow A_2 c_2 3 1 ((v_5.set k_4 (w64 ((v_5[k_4]?.getD 0)-ze))).map ic)) (Y2 (n:=1) (off:=0) (.i (w64 ((v_5[k_4]?.getD 0)-ze))) 5 ((v_5.set k_4 (w64 ((v_5[k_4]?.getD 0)-ze))).map ic) rfl (Z6 (getD_at _ _ 0 (by first|exact i3_|exact aQ _|exact cB.2 i3_))) Kr Kr Kr Kr (YJ Kr)) Kr (TL.rw 15 (.slice A_2 v_5.length c_2) (.slice A_2 ((v_5.set k_4 (w64 ((v_5[k_4]?.getD 0)-ze))).length) c_2) Kr (by simp only[aL]) (Zw rfl (ZY (Z3 (TC.region (Zc 2 [] [(140,.i (w64 ((k_4:Int)+1)))] {} (Zw rfl (TE.rw 140 (.i (w64 ((k_4:Int)+1))) (.i ((k_4+1:Nat):Int)) Kr (ZD k_4 (by omega)) (Z4 (x:=(k_4,u_5,v_5,xn)) (k_4+1,(u_5.set (((row.set 0 (1+(k:Int)))[k_4]?.getD 0).toNat) (w64 ((u_5[((row.set 0 (1+(k:Int)))[k_4]?.getD 0).toNat]?.getD 0)+ze))),(v_5.set k_4 (w64 ((v_5[k_4]?.getD 0)-ze))),xn) ⟨by omega,l6.trans (by subst hr1 hr2;rw[ta];exact Zm h9 (rfl)),sl,sl,sl⟩ (mN fw) Kr (sb 1023)))))))))))))))))))))))))))
           ·exact TC.region (Zc 2 [] [(164,.slice A_5 xn.length c_5),(165,.i (k_4:Int))] {} (TL.v (sV (Instr.indexAt 22 (.slice A_5 xn.length c_5) (.i (k_4:Int)))) 166 (.pointer (some (Ix A_5 (k_4*1)))) (fun w hM=>Zr (hM.rd_at 1 rfl) (by simp) Kr (by first|exact i4_|exact aQ _|exact cB.2 i4_) (by first|exact i4_|exact aQ _|exact cB.2 i4_)) {} (TL.v (sV (Instr.loadAt 3 (.pointer (some (Ix A_5 (k_4*1)))))) 167 (.i (xn[k_4]?.getD 0)) (fun w hM=>Zu (off:=0) (i:=k_4) (.i (xn[k_4]?.getD 0)) (hM.rd_at 1 rfl) (Z6 (getD_at _ _ 0 (by first|exact i4_|exact aQ _|exact cB.2 i4_))) Kr Kr) {} (Zc 6 [] [(169,.i (w64 ((xn[k_4]?.getD 0)-ze)))] {} (TL.v (sV (Instr.indexAt 22 (.slice A_5 xn.length c_5) (.i (k_4:Int)))) 170 (.pointer (some (Ix A_5 (k_4*1)))) (fun w hM=>Zr (hM.rd_at 1 rfl) (by simp) Kr (by first|exact i4_|exact aQ _|exact cB.2 i4_) (by first|exact i4_|exact aQ _|exact cB.2 i4_)) {} (KF (Γ:=Unit) (sU (Instr.storeAt 3 (.pointer (some ((Ix A_5 (k_4*1)).add 0))) (.i (w64 ((xn[k_4]?.getD 0)-ze))))) 1 (Ow A_5 c_5 3 1 ((xn.set k_4 (w64 ((xn[k_4]?.getD 0)-ze))).map ic)) (Y2 (n:=1) (off:=0) (.i (w64 ((xn[k_4]?.getD 0)-ze))) 1 ((xn.set k_4 (w64 ((xn[k_4]?.getD 0)-ze))).map ic) rfl (Z6 (getD_at _ _ 0 (by first|exact i4_|exact aQ _|exact cB.2 i4_))) Kr Kr Kr Kr (YJ Kr)) Kr (TL.rw 20 (.slice A_5 xn.length c_5) (.slice A_5 ((xn.set k_4 (w64 ((xn[k_4]?.getD 0)-ze))).length) c_5) Kr (by simp only[aL]) (Zw rfl (ZY (Z3 (TC.region (Zc 2 [] [(140,.i (w64 ((k_4:Int)+1)))] {} (Zw rfl (TE.rw 140 (.i (w64 ((k_4:Int)+1))) (.i ((k_4+1:Nat):Int)) Kr (ZD k_4 (by omega)) (Z4 (x:=(k_4,u_5,v_5,xn)) (k_4+1,u_5,v_5,(xn.set k_4 (w64 ((xn[k_4]?.getD 0)-ze)))) ⟨by omega,l6.trans (by subst hr1 hr2;rw[ta];exact Ze h9 (rfl)),sl,sl,sl⟩ (mN fw) Kr (sb 1023))))))))))))))))
          ·have ta:=Qb h8
           refine TC.exit (ZT (ZT (Z0 ?_)))
           exact TE.cut (u_5,v_5,xn) (⟨l6.trans (by subst hr1 hr2;rw[ta];exact rfl),sl,sl,sl⟩) Kr (sb 1023)
         ·rintro⟨u_6,v_6,wo⟩ ⟨de,hl_u_6,hl_v_6,ep⟩
          refine YC (Zc 2 [] [(19,.i zx)] {} (Zz (Zc 2 [] [(173,.slice A_3 ((row.set 0 (1+(k:Int))).length) c_3),(174,.i zx)] {} (TL.v (sV (Instr.indexAt 22 (.slice A_3 ((row.set 0 (1+(k:Int))).length) c_3) (.i zx))) 175 (.pointer (some (Ix A_3 (zx.toNat*1)))) (fun w hM=>Zr (hM.rd_at 2 rfl) (by simp) Kr sd sd) {} (TL.v (sV (Instr.loadAt 3 (.pointer (some (Ix A_3 (zx.toNat*1)))))) 176 (.i ((row.set 0 (1+(k:Int)))[zx.toNat]?.getD 0)) (fun w hM=>Zu (off:=0) (i:=zx.toNat) (.i ((row.set 0 (1+(k:Int)))[zx.toNat]?.getD 0)) (hM.rd_at 2 rfl) (Z6 (getD_at _ _ 0 sd)) Kr Kr) {} (Zc 5 [] [(177,.b (((row.set 0 (1+(k:Int)))[zx.toNat]?.getD 0)==0))] {} (Zb rfl (TC.cond (((row.set 0 (1+(k:Int)))[zx.toNat]?.getD 0)==0) rfl Kr (fun h10=>?_) (fun h10=>?_)))))))))
          ·have uy:=(YT h10)
           refine TC.exit (Wv rfl (ZT (Z0 ?_)))
           exact TE.cut (zx,u_6,v_6,kg,wo,(used.set at_.toNat true)) (⟨cT (kr.symm.trans (by subst hr1 hr2;exact Yr (gd.symm.trans gg) (Yr (ss.symm.trans de) (Zm h10 (rfl))))),sl,sl,sl,sl,sl,(S8 ks_ vc hlt y9 gd gg ss de h10)⟩) Kr (sb 1020)
          ·have uy:=(Yl h10)
           exact TC.skip (ZY (Z4 (x:=(m+1,at_,u_3,v_3,ke,kf,used)) (m,zx,u_6,v_6,kg,wo,(used.set at_.toNat true)) ⟨by omega,(by subst hr1 hr2;refine Eq.trans (Eq.symm ?_) kr;exact Yr (gd.symm.trans gg) (Yr (ss.symm.trans de) (Ze h10 (rfl)))),sl,sl,sl,sl,sl,(PV ks_ vc hlt y9 gd gg ss de h10)⟩ (cY _) Kr (sb 1023)))
       ·rintro⟨yj,u_4,v_4,xf,pn,zw⟩ ⟨gv,hl_u_4,hl_v_4,eu,ez,df,w6⟩
        refine Z3 ?_
        obtain⟨R12,l8⟩:∃ R,XQ xf 100 yj (row.set 0 (1+(k:Int)))=some R:=RR ks_ vc hlt w6
        refine TC.cut (S:=(List Int)) (fun yk=>[(10,.i r1),(12,.i r2),(13,.func (.func 154) #[] #[.p0 b4,.p0 b1,.p0 b2,.p0 b3]),(14,.slice A u_4.length c),(15,.slice A_2 v_4.length c_2),(16,.slice A_3 yk.length c_3),(17,.slice A_4 xf.length c_4),(18,.i (1+(k:Int)))]) (fun yk=>[Ow A_3 c_3 3 1 (yk.map ic),Ow A_4 c_4 3 1 (xf.map ic),Ow A c 3 1 (u_4.map ic),Ow A_2 c_2 3 1 (v_4.map ic),Bk b4 #[.i (((qb.drop from_.toNat)[0]?.getD []).length:Int)] 3,Bk b3 #[.slice A1 ((qb.drop from_.toNat).length) (qo-from_.toNat)] 132,Bk b2 #[.slice A_taken taken.length xk] 137,Bk b1 #[.i qc] 3]) (fun yk=>R12=yk∧yk.length=row.length) ?_ ?_
        ·refine TC.block (Xp (X:=Nat×Int×(List Int)) (fun (m_2,zt,x6)=>[(10,.i r1),(12,.i r2),(13,.func (.func 154) #[] #[.p0 b4,.p0 b1,.p0 b2,.p0 b3]),(14,.slice A u_4.length c),(15,.slice A_2 v_4.length c_2),(16,.slice A_3 x6.length c_3),(17,.slice A_4 xf.length c_4),(18,.i (1+(k:Int))),(19,.i zt)]) (fun (m_2,zt,x6)=>[Ow A_3 c_3 3 1 (x6.map ic),Ow A_4 c_4 3 1 (xf.map ic),Ow A c 3 1 (u_4.map ic),Ow A_2 c_2 3 1 (v_4.map ic),Bk b4 #[.i (((qb.drop from_.toNat)[0]?.getD []).length:Int)] 3,Bk b3 #[.slice A1 ((qb.drop from_.toNat).length) (qo-from_.toNat)] 132,Bk b2 #[.slice A_taken taken.length xk] 137,Bk b1 #[.i qc] 3]) (fun (m_2,zt,x6)=>m_2) (fun (m_2,zt,x6)=>m_2≤100∧XQ xf m_2 zt x6=some R12∧x6.length=row.length∧(0≤zt∧zt≤r2)) ?_ (100,yj,(row.set 0 (1+(k:Int)))) ⟨aU _,l8,sz,(PW ks_ w6)⟩ Kr (sb 255))
         rintro⟨m_2,zt,x6⟩ ⟨hk_6,l9,e9,fx⟩
         have kw_:=PX ks_ w6 fx
         rcases m_2 with _|m_2
         ·cases l9
         refine TC.seq (Zf (Zc 2 [] [(179,.b (zt != 0))] {} (Zb rfl (TC.cond (zt != 0) rfl Kr (fun h11=>?_) (fun h11=>?_)))))
         ·have tp:=(F5 h11)
          exact Yg (TC.block (Zf (Zc 5 [] [(180,.slice A_3 x6.length c_3),(181,.i zt),(182,.slice A_3 x6.length c_3),(183,.slice A_4 xf.length c_4),(184,.i zt)] {} (TL.v (sV (Instr.indexAt 22 (.slice A_4 xf.length c_4) (.i zt))) 185 (.pointer (some (Ix A_4 (zt.toNat*1)))) (fun w hM=>Zr (hM.rd_at 1 rfl) (by simp) Kr sd sd) {} (TL.v (sV (Instr.loadAt 3 (.pointer (some (Ix A_4 (zt.toNat*1)))))) 186 (.i (xf[zt.toNat]?.getD 0)) (fun w hM=>Zu (off:=0) (i:=zt.toNat) (.i (xf[zt.toNat]?.getD 0)) (hM.rd_at 1 rfl) (Z6 (getD_at _ _ 0 sd)) Kr Kr) {} (TL.v (sV (Instr.indexAt 22 (.slice A_3 x6.length c_3) (.i (xf[zt.toNat]?.getD 0)))) 187 (.pointer (some (Ix A_3 ((xf[zt.toNat]?.getD 0).toNat*1)))) (fun w hM=>Zr (hM.rd_at 0 rfl) (by simp) Kr sd sd) {} (TL.v (sV (Instr.loadAt 3 (.pointer (some (Ix A_3 ((xf[zt.toNat]?.getD 0).toNat*1)))))) 188 (.i (x6[(xf[zt.toNat]?.getD 0).toNat]?.getD 0)) (fun w hM=>Zu (off:=0) (i:=(xf[zt.toNat]?.getD 0).toNat) (.i (x6[(xf[zt.toNat]?.getD 0).toNat]?.getD 0)) (hM.rd_at 0 rfl) (Z6 (getD_at _ _ 0 sd)) Kr Kr) {} (TL.v (sV (Instr.indexAt 22 (.slice A_3 x6.length c_3) (.i zt))) 189 (.pointer (some (Ix A_3 (zt.toNat*1)))) (fun w hM=>Zr (hM.rd_at 0 rfl) (by simp) Kr sd sd) {} (KF (Γ:=Unit) (sU (Instr.storeAt 3 (.pointer (some ((Ix A_3 (zt.toNat*1)).add 0))) (.i (x6[(xf[zt.toNat]?.getD 0).toNat]?.getD 0)))) 0 (Ow A_3 c_3 3 1 ((x6.set zt.toNat (x6[(xf[zt.toNat]?.getD 0).toNat]?.getD 0)).map ic)) (Y2 (n:=1) (off:=0) (.i (x6[(xf[zt.toNat]?.getD 0).toNat]?.getD 0)) 0 ((x6.set zt.toNat (x6[(xf[zt.toNat]?.getD 0).toNat]?.getD 0)).map ic) rfl (Z6 (getD_at _ _ 0 sd)) Kr Kr Kr Kr (YJ Kr)) Kr (TL.rw 16 (.slice A_3 x6.length c_3) (.slice A_3 ((x6.set zt.toNat (x6[(xf[zt.toNat]?.getD 0).toNat]?.getD 0)).length) c_3) Kr (by simp only[aL]) (Zb rfl (TC.region (Zc 2 [] [(190,.slice A_4 xf.length c_4),(191,.i zt)] {} (TL.v (sV (Instr.indexAt 22 (.slice A_4 xf.length c_4) (.i zt))) 192 (.pointer (some (Ix A_4 (zt.toNat*1)))) (fun w hM=>Zr (hM.rd_at 1 rfl) (by simp) Kr sd sd) {} (TL.v (sV (Instr.loadAt 3 (.pointer (some (Ix A_4 (zt.toNat*1)))))) 193 (.i (xf[zt.toNat]?.getD 0)) (fun w hM=>Zu (off:=0) (i:=zt.toNat) (.i (xf[zt.toNat]?.getD 0)) (hM.rd_at 1 rfl) (Z6 (getD_at _ _ 0 sd)) Kr Kr) {} (Zc 5 [] [(19,.i (xf[zt.toNat]?.getD 0))] {} (Zw rfl (ZY (Z4 (x:=(m_2+1,zt,x6)) (m_2,(xf[zt.toNat]?.getD 0),(x6.set zt.toNat (x6[(xf[zt.toNat]?.getD 0).toNat]?.getD 0))) ⟨by omega,(by subst hr1 hr2;refine Eq.trans (Eq.symm ?_) l9;exact Zm h11 (rfl)),sl,(PX ks_ w6 fx)⟩ (cY _) Kr (sb 255))))))))))))))))))))
         ·have tp:=(QA h11)
          refine TC.exit (ZT (ZT (Z0 ?_)))
          exact TE.cut x6 (⟨cT (l9.symm.trans (by subst hr1 hr2;exact Ze h11 (rfl))),sl⟩) Kr (sb 255)
        ·rintro yk ⟨ie,ig⟩
         exact ZY (Z3 (TC.region (Zc 3 [] [(18,.i (w64 ((1+(k:Int))+1)))] {} (Zw rfl (TE.rw 18 (.i (w64 ((1+(k:Int))+1))) (.i (1+((k+1:Nat):Int))) Kr (int_eq (by first|omega|(rw[Zt (by omega)];omega)|(simp only[Xi] at *;omega))) (Z4 (x:=(k,u,v,row,way)) (k+1,u_4,v_4,yk,xf) ⟨by omega,hI.trans (by subst hr1 hr2;rw[hd];exact Yr (xo.symm.trans jv) (Yr ((congrArg (Option.getD · _) yd).trans gv) (Yr ((congrArg (Option.getD · _) l8).trans ie) (rfl)))),sl,sl,sl,sl,(S9 ks_ vc hlt w6 l8 ie)⟩ (mN hlt) Kr (sb 255)))))))
     ·have hd:r1.toNat-k=0:=by have p0_:=(Zv h2);first|omega|(simp only[Xi] at *;omega)
      refine TC.exit (ZT (ZT (Z0 ?_)))
      exact TE.cut (u,v,row,way) (⟨hI.trans (by subst hr1 hr2;rw[hd];exact rfl),sl,sl,sl,sl,(PU vc hk hd)⟩) Kr (sb 241)
    ·rintro⟨u_2,v_2,qv,pk⟩ ⟨hJ,hl_u_2,hl_v_2,gy,ik,kz⟩
     refine YC (Zc 1 [] [(29,.i 0)] {} (Z1 (Zf (Zc 1 [] [(30,.i 1)] {} (Zb rfl ?_)))))
     obtain⟨R13,il⟩:∃ R,R=Jd qb qc from_ taken qv r2.toNat 0 0:=⟨_,rfl⟩
     refine TC.cut (S:=Int) (fun wc=>[(29,.i wc)]) (fun wc=>[]) (fun wc=>R13=wc) ?_ ?_
     ·refine TC.block (TC.rw 30 (.i 1) (.i (1+((0:Nat):Int))) Kr (int_eq (by first|omega|(rw[Zt (by omega)];omega)|(simp only[Xi];omega))) (Xp (X:=Nat×Int) (fun (k_5,wq)=>[(12,.i r2),(13,.func (.func 154) #[] #[.p0 b4,.p0 b1,.p0 b2,.p0 b3]),(16,.slice A_3 qv.length c_3),(29,.i wq),(30,.i (1+(k_5:Int)))]) (fun (k_5,wq)=>[Ow A_3 c_3 3 1 (qv.map ic),Bk b4 #[.i (((qb.drop from_.toNat)[0]?.getD []).length:Int)] 3,Bk b3 #[.slice A1 ((qb.drop from_.toNat).length) (qo-from_.toNat)] 132,Bk b2 #[.slice A_taken taken.length xk] 137,Bk b1 #[.i qc] 3]) (fun (k_5,wq)=>r2.toNat-k_5) (fun (k_5,wq)=>k_5≤r2.toNat∧R13=Jd qb qc from_ taken qv (r2.toNat-k_5) k_5 wq) ?_ (0,0) ⟨aP _,il⟩ Kr (sb 31)))
      rintro⟨k_5,wq⟩ ⟨hk_7,na⟩
      refine TC.seq (Zf (Zc 3 [] [(196,.b (decide ((1+(k_5:Int))≤r2)))] {} (Zb rfl (TC.cond (decide ((1+(k_5:Int))≤r2)) rfl Kr (fun h12=>?_) (fun h12=>?_)))))
      ·have tq:k_5<r2.toNat:=by have p0_:=(ZF h12);first|omega|(simp only[Xi] at *;omega)
       have kl_:=NE ks_ kz (j:=(1+(k_5:Int)).toNat) (by have:=(ZF h12);omega)
       have tc:r2.toNat-k_5=(r2.toNat-(k_5+1))+1:=by omega
       have q12_0:=(ZF h12)
       refine Yg (TC.seq (TC.block (Zf (Zc 2 [] [(199,.slice A_3 qv.length c_3),(200,.i (1+(k_5:Int)))] {} (TL.v (sV (Instr.indexAt 22 (.slice A_3 qv.length c_3) (.i (1+(k_5:Int))))) 201 (.pointer (some ((A_3.getD Yz).add ((1+(k_5:Int)).toNat*1)))) (fun w hM=>Zr (hM.rd_at 0 rfl) (by simp) Kr sd sd) {} (TL.v (sV (Instr.loadAt 3 (.pointer (some ((A_3.getD Yz).add ((1+(k_5:Int)).toNat*1)))))) 202 (.i (qv[(1+(k_5:Int)).toNat]?.getD 0)) (fun w hM=>Zu (off:=0) (i:=(1+(k_5:Int)).toNat) (.i (qv[(1+(k_5:Int)).toNat]?.getD 0)) (hM.rd_at 0 rfl) (Z6 (getD_at _ _ 0 sd)) Kr Kr) {} (Zc 5 [] [(203,.b (decide ((qv[(1+(k_5:Int)).toNat]?.getD 0)>0)))] {} (Zb rfl (TC.cond (decide ((qv[(1+(k_5:Int)).toNat]?.getD 0)>0)) rfl Kr (fun h13=>?_) (fun h13=>?_))))))))))
       ·have im:=(ZF h13)
        exact TC.region (Zc 4 [] [(204,.i wq),(205,.func (.func 154) #[] #[.p0 b4,.p0 b1,.p0 b2,.p0 b3]),(206,.slice A_3 qv.length c_3),(207,.i (1+(k_5:Int)))] {} (TL.v (sV (Instr.indexAt 22 (.slice A_3 qv.length c_3) (.i (1+(k_5:Int))))) 208 (.pointer (some ((A_3.getD Yz).add ((1+(k_5:Int)).toNat*1)))) (fun w hM=>Zr (hM.rd_at 0 rfl) (by simp) Kr sd sd) {} (TL.v (sV (Instr.loadAt 3 (.pointer (some ((A_3.getD Yz).add ((1+(k_5:Int)).toNat*1)))))) 209 (.i (qv[(1+(k_5:Int)).toNat]?.getD 0)) (fun w hM=>Zu (off:=0) (i:=(1+(k_5:Int)).toNat) (.i (qv[(1+(k_5:Int)).toNat]?.getD 0)) (hM.rd_at 0 rfl) (Z6 (getD_at _ _ 0 sd)) Kr Kr) {} (Zc 9 [] [(210,.i (w64 ((qv[(1+(k_5:Int)).toNat]?.getD 0)-1))),(212,.i (w64 ((1+(k_5:Int))-1)))] {} (TL.c 213 (YQ (w64 ((qv[(1+(k_5:Int)).toNat]?.getD 0)-1)) (w64 ((1+(k_5:Int))-1)) (((qb.drop from_.toNat)[0]?.getD []).length:Int) qc taken (qb.drop from_.toNat)) (fun r4=>.i r4) (fun w hM=>UF (w64 ((qv[(1+(k_5:Int)).toNat]?.getD 0)-1)) (w64 ((1+(k_5:Int))-1)) ⟨b4,0,none⟩ (((qb.drop from_.toNat)[0]?.getD []).length:Int) ⟨b1,0,none⟩ qc ⟨b2,0,none⟩ A_taken xk taken ⟨b3,0,none⟩ A1 (qo-from_.toNat) (qb.drop from_.toNat) (qq.drop from_.toNat) w (Rd.lit hM 1 _ rfl Kr Kr Kr) (Rd.lit hM 4 _ rfl Kr Kr Kr) (Rd.lit hM 3 _ rfl Kr Kr Kr) ⟨(ga.sat hM),gz⟩ (Rd.lit hM 2 _ rfl Kr Kr Kr) (hR1.sat hM) hC1 (fun s hs=>((Nv xa from_.toNat) s hs).sat hM) (GL qz from_.toNat) (by first|exact UV ks_ htk (RQ ks_ vc hlt y9).2 (by have:=(ZF h4);omega)|exact UV ks_ htk (by have q_:=NE ks_ kz (j:=(1+(k_5:Int)).toNat) (by have:=(ZF h12);have:=ks_.facts;omega);have:=(ZF h13);omega) (by have:=(ZF h12);omega))) {} (fun r4 hr4=>Zc 12 [] [(29,.i (w64 (wq+r4)))] {} (Zw rfl (ZY (Z3 (TC.region (Zc 3 [] [(30,.i (w64 ((1+(k_5:Int))+1)))] {} (Zw rfl (TE.rw 30 (.i (w64 ((1+(k_5:Int))+1))) (.i (1+((k_5+1:Nat):Int))) Kr (int_eq (by first|omega|(rw[Zt (by omega)];omega)|(simp only[Xi] at *;omega))) (Z4 (x:=(k_5,wq)) (k_5+1,w64 (wq+r4)) ⟨by omega,na.trans (by subst hr1 hr2 hr4;rw[tc];exact Zm h13 (rfl))⟩ (mN tq) Kr (sb 31)))))))))))))))
       ·have im:=(Zv h13)
        exact TC.skip (ZY (Z3 (TC.region (Zc 3 [] [(30,.i (w64 ((1+(k_5:Int))+1)))] {} (Zw rfl (TE.rw 30 (.i (w64 ((1+(k_5:Int))+1))) (.i (1+((k_5+1:Nat):Int))) Kr (int_eq (by first|omega|(rw[Zt (by omega)];omega)|(simp only[Xi] at *;omega))) (Z4 (x:=(k_5,wq)) (k_5+1,wq) ⟨by omega,na.trans (by subst hr1 hr2;rw[tc];exact Ze h13 (rfl))⟩ (mN tq) Kr (sb 31))))))))
      ·have tc:r2.toNat-k_5=0:=by have p0_:=(Zv h12);first|omega|(simp only[Xi] at *;omega)
       refine TC.exit (ZT (ZT (Z0 ?_)))
       exact TE.cut wq (na.trans (by subst hr1 hr2;rw[tc];exact rfl)) Kr (sb 0)
     ·rintro wc hJ_8
      exact YC (Zc 2 [] [(8,.i wc)] {} (Zb rfl (TC.ret (TE.ret [] (.i wc) {} (by unfold ZM;refine eS (fun z=>(.i z:Value)) ?_;subst hr1 hr2;exact Ze h1 (Yr (hR.symm.trans hJ) (Yr (il.symm.trans hJ_8) (rfl))))))))
end Go.Sky
end
section
namespace Go.Sky
open Go Go.Eng Go.Proofs
def Qi (qb:List (List Int)) (qc:Int):Int×Int :=
 let r1:=Yn qb qc
 cond (r1 != 0) (
  (0,r1)) (
  let r2:=QO qb
  let r3:=ZM qb qc 0 (List.replicate r2.toNat false)
  (r3,0))
def QW (qb:List (List Int)) (qc:Int) (k:Nat):List Int→Nat→Int→Int→(List Bool)→(Int×Int×List Bool)
 | [],_,xq,choice,q8=>(xq,choice,q8)
 | x_2::xs,k_2,xq,choice,q8=>cond (decide (x_2<0)) (
   QW qb qc k xs (k_2+1) xq choice q8) (
   cond ((q8[k_2]?.getD false)) (
    QW qb qc k xs (k_2+1) xq choice q8) (
    let r4:=ZM qb qc (w64 ((k:Int)+1)) (q8.set k_2 true)
    cond ((w64 (x_2+r4))==xq) (
     (w64 (xq-x_2),(k_2:Int),(q8.set k_2 true))) (
     QW qb qc k xs (k_2+1) xq choice ((q8.set k_2 true).set k_2 false))))
def Jx (qb:List (List Int)) (qc:Int):List (List Int)→Nat→Int→(List Int)→(List Bool)→(List Int×List Bool)
 | [],_,_,out,taken=>(out,taken)
 | x::xs,k,left,out,taken=>let r3:=ZM qb qc (w64 ((k:Int)+1)) taken
  cond ((w64 (qc+r3))==left) (
   Jx qb qc xs (k+1) (w64 (left-qc)) (out++([(-1)])) taken) (
   YB (QW qb qc k x 0 left (-1) taken) (fun (w8,je,vt) =>
    Jx qb qc xs (k+1) w8 (out++([je])) vt))
def Y5 (qb:List (List Int)) (qc:Int):List Int×Int×Int :=
 let r1:=Qi qb qc
 cond (r1.2 != 0) (
  ([],0,r1.2)) (
  let r2:=QO qb
  YB (Jx qb qc qb 0 r1.1 ([]:List Int) (List.replicate r2.toNat false)) (fun (qk,_) =>
   (qk,r1.1,0)))
end Go.Sky
end
section
namespace Go.Sky
open Go Go.Eng
inductive UW (qc:Int):List (List Int)→List Bool→List Int→Int→Prop
 | nil (taken:List Bool):UW qc [] taken [] 0
 | skip {row:List Int} {rows:List (List Int)} {taken:List Bool} {to:List Int} {t:Int}:UW qc rows taken to t→UW qc (row::rows) taken ((-1)::to) (qc+t)
 | pick {row:List Int} {rows:List (List Int)} {taken:List Bool} {to:List Int} {t:Int} (k:Nat):k<row.length→gb taken k=false→0≤gt row k→UW qc rows (taken.set k true) to t→UW qc (row::rows) taken ((k:Int)::to) (gt row k+t)
theorem UW.val {qc:Int} {rows:List (List Int)} {taken:List Bool} {to:List Int} {t:Int} (h:UW qc rows taken to t):Val qc rows taken t:=by
 induction h with
 | nil taken=>exact .nil taken
 | skip _ ih=>exact .skip ih
 | pick k h1 h2 h3 _ ih=>exact .pick k h1 h2 h3 ih
theorem UW.len {qc:Int} {rows:List (List Int)} {taken:List Bool} {to:List Int} {t:Int} (h:UW qc rows taken to t):to.length=rows.length:=by
 induction h with
 | nil taken=>rfl
 | skip _ ih=>rw[aI,aI,ih]
 | pick k h1 h2 h3 _ ih=>rw[aI,aI,ih]
theorem L9 {qc:Int}:∀ (rows:List (List Int)) (taken:List Bool),Val qc rows taken ((rows.length:Int)*qc)
 | [],taken=>by rw[show (([]:List (List Int)).length:Int)*qc=0 by simp];exact .nil taken
 | row::rows,taken=>by
  rw[show (((row::rows).length:Int))*qc=qc+(rows.length:Int)*qc by rw[aI,hQ,iB];simp[Int.add_comm]]
  exact .skip (L9 rows taken)
theorem Val.nonneg {qc:Int} {rows:List (List Int)} {taken:List Bool} {t:Int} (h:Val qc rows taken t) (hm:0≤qc):0≤t:=by
 induction h with
 | nil taken=>exact cO _
 | skip _ ih=>omega
 | pick k h1 h2 h3 _ ih=>omega
theorem E0 {qc t:Int} {taken:List Bool} (h:Val qc [] taken t):t=0:=by cases h;rfl
theorem PY {l:List Bool} {j:Nat} (h:gb l j=false) (hj:j<l.length):(l.set j true).set j false=l:=by
 have e:l[j]=false:=by unfold gb at h;rw[aM hj] at h;exact h
 rw[List.set_set]
 exact(congrArg (l.set j) e.symm).trans (List.set_getElem_self hj)
theorem GP {α:Type} {l xs:List α} {x:α} {k:Nat} (h:l.drop k=x::xs):l.drop (k+1)=xs∧l[k]?=some x∧k<l.length:=by
 have e1:l.drop (k+1)=xs:=by rw[← dA,h];rfl
 have e2:(l.drop k)[0]?=some x:=by rw[h];rfl
 rw[cN,bZ] at e2
 exact⟨e1,e2,(aK.1 e2).1⟩
section
variable {qb:List (List Int)} {zb:Nat} {qc:Int}
theorem UG (g:Good qb zb qc) (k:Nat) {taken:List Bool} (ht:taken.length=zb):Val qc (qb.drop k) taken (ZM qb qc (k:Int) taken)∧(∀ t,Val qc (qb.drop k) taken t→ZM qb qc (k:Int) taken≤t)∧0≤ZM qb qc (k:Int) taken∧ZM qb qc (k:Int) taken≤35184372088832:=by
 have g':=g.from k
 have q:=S3 (qb:=qb) (qc:=qc) (from_:=(k:Int)) (taken:=taken) (zb:=zb) (by rw[aO];exact g') ht
 rw[aO] at q
 refine⟨q.1,q.2,q.1.nonneg g.mb.1,dN (q.2 _ (L9 _ _)) ?_⟩
 have n1:=g'.n1
 have:((qb.drop k).length:Int)*qc≤32*1099511627776:=bP (by omega) g.mb.2 g.mb.1 (by omega)
 omega
theorem LA (g:Good qb zb qc) {k:Nat} (hk:k<1000) {x:List Int} (hx:x∈qb) {left:Int} (hl:0≤left∧left≤35184372088832) {taken:List Bool} (ht:taken.length=zb) :
  ∀ (ys:List Int) (j:Nat),x.drop j=ys→(∃ i,j≤i∧i<zb∧gb taken i=false∧0≤gt x i∧gt x i+ZM qb qc ((k+1:Nat):Int) (taken.set i true)=left) →
   ∃ i,i<zb∧gb taken i=false∧0≤gt x i∧gt x i+ZM qb qc ((k+1:Nat):Int) (taken.set i true)=left∧QW qb qc k ys j left (-1) taken=(left-gt x i,(i:Int),taken.set i true)
 | [],j,hd,⟨i,i1,i2,_⟩=>by
  have:=congrArg List.length hd
  rw[aH,g.len x hx] at this
  simp at this;omega
 | y::ys,j,hd,⟨i,i1,i2,i3,i4,i5⟩=>by
  obtain⟨d1,d2,d3⟩:=GP hd
  have ey:gt x j=y:=by unfold gt;rw[d2];rfl
  have by_:=g.bnd x hx _ (PT d3)
  have d4:=g.len x hx
  have ih:=LA g hk hx hl ht ys (j+1) d1
  have ek:w64 ((k:Int)+1)=((k+1:Nat):Int):=by rw[Zt (by omega)];omega
  unfold QW
  by_cases h0:y<0
  ·rw[show decide (y<0)=true from decide_eq_true h0,cond_true]
   have:i≠j:=by rintro rfl;omega
   exact ih ⟨i,by omega,i2,i3,i4,i5⟩
  ·rw[show decide (y<0)=false from decide_eq_false h0,cond_false]
   cases hb:gb taken j
   ·rw[show taken[j]?.getD false=false from hb,cond_false,ek]
    have hr:=(UG g (k+1) (taken:=taken.set j true) (by rw[aL];exact ht)).2.2
    simp only
    rw[Zt (x:=y+_) (by omega)]
    by_cases he:y+ZM qb qc ((k+1:Nat):Int) (taken.set j true)=left
    ·rw[show (y+ZM qb qc ((k+1:Nat):Int) (taken.set j true)==left)=true by simpa using he,cond_true,Zt (by omega)]
     exact⟨j,by omega,hb,by omega,by rw[ey];exact he,by rw[ey]⟩
    ·rw[show (y+ZM qb qc ((k+1:Nat):Int) (taken.set j true)==left)=false by simpa using he,cond_false,PY hb (by omega)]
     have:i≠j:=by rintro rfl;rw[ey] at i5;exact he i5
     exact ih ⟨i,by omega,i2,i3,i4,i5⟩
   ·rw[show taken[j]?.getD false=true from hb,cond_true]
    have:i≠j:=by rintro rfl;rw[hb] at i3;cases i3
    exact ih ⟨i,by omega,i2,i3,i4,i5⟩
theorem Db (g:Good qb zb qc):∀ (xs:List (List Int)) (k:Nat) (left:Int) (out:List Int) (taken:List Bool),qb.drop k=xs→taken.length=zb→left=ZM qb qc (k:Int) taken →
  ∃ (to:List Int) (nc:List Bool),Jx qb qc xs k left out taken=(out++to,nc)∧UW qc xs taken to left
 | [],k,left,out,taken,hd,ht,hl=>by
  have q:=(UG g k ht).1
  rw[hd] at q
  refine⟨[],taken,by rw[bU];rfl,?_⟩
  rw[hl,E0 q]
  exact .nil taken
 | x::xs,k,left,out,taken,hd,ht,hl=>by
  obtain⟨d1,d2,d3⟩:=GP hd
  have hn:=g.n1
  have hm:=g.mb
  have hx:x∈qb:=aR d2
  obtain⟨q1,q2,q3,q4⟩:=UG g k ht
  obtain⟨r1,r2,r3,r4⟩:=UG g (k+1) ht
  rw[hd] at q1 q2
  rw[d1] at r1 r2
  rw[← hl] at q1 q2 q3 q4
  have ek:w64 ((k:Int)+1)=((k+1:Nat):Int):=by rw[Zt (by omega)];omega
  unfold Jx
  simp only[ek]
  rw[Zt (x:=qc+_) (by omega)]
  by_cases he:qc+ZM qb qc ((k+1:Nat):Int) taken=left
  ·rw[show (qc+ZM qb qc ((k+1:Nat):Int) taken==left)=true by simpa using he,cond_true,Zt (by omega)]
   obtain⟨to,tk,e,p⟩:=Db g xs (k+1) (left-qc) (out ++ [(-1)]) taken d1 ht (by omega)
   refine⟨(-1)::to,tk,by rw[e];simp,?_⟩
   have:=UW.skip (row:=x) p
   rwa [show qc+(left-qc)=left by omega] at this
  ·rw[show (qc+ZM qb qc ((k+1:Nat):Int) taken==left)=false by simpa using he,cond_false]
   have ex:∃ i,0≤i∧i<zb∧gb taken i=false∧0≤gt x i∧gt x i+ZM qb qc ((k+1:Nat):Int) (taken.set i true)=left:=by
    generalize hL:left=L at q1
    cases q1 with
    | skip h =>
     have a:=r2 _ h
     have b:=q2 _ (.skip r1)
     omega
    | pick i h1 h2 h3 h4 =>
     obtain⟨s1,s2,_,_⟩:=UG g (k+1) (taken:=taken.set i true) (by rw[aL];exact ht)
     rw[d1] at s1 s2
     have a:=s2 _ h4
     have b:=q2 _ (.pick i h1 h2 h3 s1)
     exact⟨i,aP _,by rw[← g.len x hx];exact h1,h2,h3,by omega⟩
   obtain⟨i,i1,i2,i3,i4,e⟩:=LA g (k:=k) (by omega) hx ⟨q3,q4⟩ ht x 0 eE ex
   rw[e]
   unfold YB
   simp only
   obtain⟨to,tk,e2,p⟩:=Db g xs (k+1) (left-gt x i) (out ++ [(i:Int)]) (taken.set i true) d1 (by rw[aL];exact ht) (by omega)
   refine⟨(i:Int)::to,tk,by rw[e2];simp,?_⟩
   have:=UW.pick (row:=x) i (by rw[g.len x hx];exact i1) i2 i3 p
   rwa [show gt x i+(left-gt x i)=left by omega] at this
end
end Go.Sky
namespace Go.Sky
open Go Go.Eng
theorem RU {qb:List (List Int)} {qc:Int} (h:Yn qb qc=0):Qi qb qc=(ZM qb qc 0 (List.replicate (qb[0]?.getD []).length false),0):=by
 unfold Qi
 simp only[h]
 rw[show ((0:Int) != 0)=false from rfl,cond_false,Da,aO]
theorem FI {qb:List (List Int)} {qc:Int} (h:Yn qb qc≠0):Qi qb qc=(0,Yn qb qc):=by
 unfold Qi
 simp only
 rw[show (Yn qb qc != 0)=true by simpa using h,cond_true]
theorem GQ {qb:List (List Int)} {qc:Int} (h:Yn qb qc=0):∃ to,Y5 qb qc=(to,ZM qb qc 0 (List.replicate (qb[0]?.getD []).length false),0) ∧
  UW qc qb (List.replicate (qb[0]?.getD []).length false) to (ZM qb qc 0 (List.replicate (qb[0]?.getD []).length false)):=by
 have g:=WV h
 obtain⟨to,tk,e,p⟩:=Db g qb 0 (ZM qb qc 0 (List.replicate (qb[0]?.getD []).length false)) [] (List.replicate (qb[0]?.getD []).length false) eE bA rfl
 refine⟨to,?_,p⟩
 have et:Qi qb qc=(ZM qb qc 0 (List.replicate (qb[0]?.getD []).length false),0):=RU h
 unfold Y5
 rw[et]
 simp only
 rw[show ((0:Int) != 0)=false from rfl,cond_false,Da,aO]
 unfold YB
 rw[e]
 rfl
theorem PZ {qb:List (List Int)} {qc:Int} (h:Yn qb qc≠0):Y5 qb qc=([],0,Yn qb qc):=by
 unfold Y5
 rw[FI h]
 simp only
 rw[show (Yn qb qc != 0)=true by simpa using h,cond_true]
theorem RV {qb:List (List Int)} {qc:Int} (h:(Y5 qb qc).2.2=0):Yn qb qc=0:=by
 by_cases hc:Yn qb qc=0
 ·exact hc
 ·rw[PZ hc] at h;exact absurd h hc
theorem SA {qb:List (List Int)} {qc:Int} (h:Yn qb qc=0):Val qc qb (List.replicate (qb[0]?.getD []).length false) (ZM qb qc 0 (List.replicate (qb[0]?.getD []).length false)) ∧
  (∀ t,Val qc qb (List.replicate (qb[0]?.getD []).length false) t→ZM qb qc 0 (List.replicate (qb[0]?.getD []).length false)≤t)∧0≤ZM qb qc 0 (List.replicate (qb[0]?.getD []).length false)∧ZM qb qc 0 (List.replicate (qb[0]?.getD []).length false)≤35184372088832 :=
 UG (WV h) 0 bA
theorem Bw {qb:List (List Int)} {qc r1:Int} (h1:Yn qb qc=r1) (h:(r1 != 0)=false):Good qb (qb[0]?.getD []).length qc:=by
 subst h1;exact WV (by simpa using h)
theorem Xo {qb:List (List Int)} {r2:Int} (h:QO qb=r2):r2=((qb[0]?.getD []).length:Int):=by rw[← h,Da]
theorem X0 {qb:List (List Int)} {qc:Int} {r1:Int×Int} (h1:Qi qb qc=r1) (h:(r1.2 != 0)=false):Good qb (qb[0]?.getD []).length qc:=by
 subst h1
 by_cases hc:Yn qb qc=0
 ·exact WV hc
 ·rw[FI hc] at h;exact absurd h (by simpa using hc)
theorem YO {qb:List (List Int)} {zb:Nat} {qc:Int} (g:Good qb zb qc) {i:Nat} {x:List Int} (hx:qb[i]?=some x):x.length=zb:=g.len x (aR hx)
end Go.Sky
end
section
namespace Go.Sky
open Go Go.Eng Go.Proofs
theorem Dc (A_costs:Option Addr) (qo:Nat) (qb:List (List Int)) (qq:List (Sl Int)) (qc:Int) (w:World) (xj:Rd w 1 A_costs (qq.map Sl.c)) (j8:qb.length≤qo) (xa:∀ s∈qq,s.rd w 1 ic) (qz:qb=qq.map Sl.l):Calls Tryz.prog 108 #[.slice A_costs qb.length qo,.int .i64 qc] w (Ret w (.tuple #[.int .i64 ((Qi qb qc).1),.int .i64 ((Qi qb qc).2)])):=by
 have ki:=xj.short;rw[← Jt qz] at ki
 refine Zp (vs:=[.slice A_costs qb.length qo,.i qc]) (w:=w) Tryz.func108 rfl Tryz.ntmps108 rfl (Zf (Zc 2 [] [(4,.i 0),(5,.i 0)] {} (Z1 (Zf (Zc 2 [] [(7,.slice A_costs qb.length qo),(8,.i qc)] {} (TL.c 9 (Yn qb qc) (fun r1=>.i r1) (fun w hM=>BV A_costs qo qb qq qc w (xj.sat hM) j8 (fun s hs=>(xa s hs).sat hM) qz) {} (fun r1 hr1=>Zc 4 [] [(6,.i r1)] {} (Zz (Zc 2 [] [(11,.b (r1 != 0))] {} (Zb rfl (TC.cond (r1 != 0) rfl Kr (fun h1=>?_) (fun h1=>?_))))))))))))
 ·exact Zf (Zc 3 [] [(4,.i 0),(5,.i r1)] {} (Zb rfl (TC.ret (Zo (TE.ret [] (.tuple #[.i 0,.i r1]) {} (by unfold Qi;refine eS (a:=(0,r1)) (fun (z:Int×Int)=>(.tuple #[.i z.1,.i z.2]:Value)) ?_;subst hr1;exact Zm h1 (rfl)))))))
 ·have vm:=(QA h1)
  refine Yc (Zc 3 [] [(13,.slice A_costs qb.length qo),(14,.i qc),(15,.slice A_costs qb.length qo)] {} (TL.c 16 (QO qb) (fun r2=>.i r2) (fun w hM=>G1 A_costs qo qb qq w (xj.sat hM) j8 (fun s hs=>(xa s hs).sat hM) qz) {} (fun r2 hr2=>TL.rw 16 (.i r2) (.i ((r2.toNat:Nat):Int)) Kr (int_eq (bN (by (try have kg_:=Bw hr1 h1);(try have kc_:=kg_.c1);(try have kw_:=Xo hr2);exact sd)).symm) (TL.on (Γ:=AN) (sV (Instr.makeSlice 137 (.i ((r2.toNat:Nat):Int)) (.i ((r2.toNat:Nat):Int)))) 17 (fun g=>.slice g.1 (List.replicate r2.toNat false).length g.2) (fun g=>Ow g.1 g.2 4 1 ((List.replicate r2.toNat false).map bc)) (KX (P:=Tryz.prog) (c:=bc) (t:=137) (e:=4) (sz:=1) (bytes:=1) false .i64 .i64 r2.toNat Kr Kr (by (try have kg_:=Bw hr1 h1);(try have kc_:=kg_.c1);(try have kw_:=Xo hr2);exact sd) (by (try have kg_:=Bw hr1 h1);(try have kc_:=kg_.c1);(try have kw_:=Xo hr2);exact sd)) {} ?_))))
  rintro⟨A,c⟩
  exact TL.c 18 (ZM qb qc 0 (List.replicate r2.toNat false)) (fun r3=>.i r3) (fun w hM=>Ua A_costs qo qb qq qc 0 A c (List.replicate r2.toNat false) w (xj.sat hM) j8 (fun s hs=>(xa s hs).sat hM) qz (hM.rd_at 0 rfl) (hM.le_at 0 rfl) (Bw hr1 h1) (by omega) (by have kw_:=Xo hr2;rw[bA];omega)) {} (fun r3 hr3=>Zc 8 [] [(4,.i r3),(5,.i 0)] {} (Zb rfl (TC.ret (TE.ret [] (.tuple #[.i r3,.i 0]) {} (by unfold Qi;refine eS (a:=(r3,0)) (fun (z:Int×Int)=>(.tuple #[.i z.1,.i z.2]:Value)) ?_;subst hr1 hr2 hr3;exact Ze h1 (rfl))))))
set_option maxHeartbeats 4000000 in
theorem Wq (A_costs:Option Addr) (qo:Nat) (qb:List (List Int)) (qq:List (Sl Int)) (qc:Int) (w:World) (xj:Rd w 1 A_costs (qq.map Sl.c)) (j8:qb.length≤qo) (xa:∀ s∈qq,s.rd w 1 ic) (qz:qb=qq.map Sl.l):Calls Tryz.prog 52 #[.slice A_costs qb.length qo,.int .i64 qc] w (JH (Γ:=(Option Addr×Nat)) (cx w) (fun g=>.tuple #[.slice g.1 ((Y5 qb qc).1.length) g.2,.int .i64 ((Y5 qb qc).2.1),.int .i64 ((Y5 qb qc).2.2)]) (fun g=>[.inr (Own g.1 g.2 3 1 (((Y5 qb qc).1).map ic))])):=by
 have ki:=xj.short;rw[← Jt qz] at ki
 refine Zp (vs:=[.slice A_costs qb.length qo,.i qc]) (w:=w) Tryz.func52 rfl Tryz.ntmps52 rfl (Zf (Zc 3 [] [(4,.slice none 0 0),(5,.i 0),(6,.i 0)] {} (Zz (Zc 2 [] [(18,.slice A_costs qb.length qo),(19,.i qc)] {} (TL.c 20 (Qi qb qc) (fun r1=>.tuple #[.i r1.1,.i r1.2]) (fun w hM=>Dc A_costs qo qb qq qc w (xj.sat hM) j8 (fun s hs=>(xa s hs).sat hM) qz) {} (fun r1 hr1=>Zc 8 [] [(7,.i r1.1),(8,.i r1.2)] {} (Z1 (Zf (Zc 2 [] [(24,.b (r1.2 != 0))] {} (Zb rfl (TC.cond (r1.2 != 0) rfl Kr (fun h1=>?_) (fun h1=>?_))))))))))))
 ·refine Zf (Zc 4 [] [(4,.slice none 0 0),(5,.i 0),(6,.i r1.2)] {} (Zb rfl (TC.ret (Zo ?_))))
  have e:Y5 qb qc=([],0,r1.2):=by subst hr1;unfold Y5;exact Zm h1 (rfl)
  refine Yi [Ow none 0 3 1 (([]:List Int).map ic)] (fun _ hM=>hM.emptyrow none 3 1) ?_
  rw[e]
  exact ZO (.inl rfl) (none,0) [] (.tuple #[.slice none 0 0,.i 0,.i r1.2]) {} rfl (fun _ hM=>hM.sub (sb 1))
 ·have vm:=(QA h1)
  refine Yc (Zc 1 [] [(26,.slice A_costs qb.length qo)] {} (TL.c 27 (QO qb) (fun r2=>.i r2) (fun w hM=>G1 A_costs qo qb qq w (xj.sat hM) j8 (fun s hs=>(xa s hs).sat hM) qz) {} (fun r2 hr2=>TL.rw 27 (.i r2) (.i ((r2.toNat:Nat):Int)) Kr (int_eq (bN (by (try have kg_:=X0 hr1 h1);(try have kc_:=kg_.c1);(try have kn_:=kg_.n1);(try have kw_:=Xo hr2);(try have kx_:=YO kg_ hx);exact sd)).symm) (TL.on (Γ:=AN) (sV (Instr.makeSlice 137 (.i ((r2.toNat:Nat):Int)) (.i ((r2.toNat:Nat):Int)))) 28 (fun g=>.slice g.1 (List.replicate r2.toNat false).length g.2) (fun g=>Ow g.1 g.2 4 1 ((List.replicate r2.toNat false).map bc)) (KX (P:=Tryz.prog) (c:=bc) (t:=137) (e:=4) (sz:=1) (bytes:=1) false .i64 .i64 r2.toNat Kr Kr (by (try have kg_:=X0 hr1 h1);(try have kc_:=kg_.c1);(try have kn_:=kg_.n1);(try have kw_:=Xo hr2);(try have kx_:=YO kg_ hx);exact sd) (by (try have kg_:=X0 hr1 h1);(try have kc_:=kg_.c1);(try have kn_:=kg_.n1);(try have kw_:=Xo hr2);(try have kx_:=YO kg_ hx);exact sd)) {} ?_))))
  rintro⟨A,c⟩
  refine Zc 4 [] [(9,.slice A ((List.replicate r2.toNat false).length) c)] {} (Zz (Zc 2 [] [(10,.i r1.1)] {} (Zz (Zc 1 [] [(11,.slice none 0 0)] {} (Z1 (Zf (Zc 3 [] [(30,.slice A_costs qb.length qo),(31,.i (qb.length:Int)),(32,.i 0)] {} (Zb rfl (Q0 [Ow none 0 3 1 (([]:List Int).map ic),Ow A c 4 1 ((List.replicate r2.toNat false).map bc)] (fun _ hM=>hM.emptyrow none 3 1) ?_)))))))))
  obtain⟨R4,hR⟩:∃ R,R=Jx qb qc qb 0 r1.1 ([]:List Int) (List.replicate r2.toNat false):=⟨_,rfl⟩
  refine TC.cut (S:=(List Int)×(List Bool)×(Option Addr)×Nat) (fun (qk,yz,A_out_2,qe)=>[(7,.i r1.1),(11,.slice A_out_2 qk.length qe)]) (fun (qk,yz,A_out_2,qe)=>[Ow A_out_2 qe 3 1 (qk.map ic)]) (fun (qk,yz,A_out_2,qe)=>R4=(qk,yz)∧qk.length≤qb.length∧yz.length=r2.toNat) ?_ ?_
  ·refine TC.block (Xp (X:=Nat×Int×(List Int)×(List Bool)×(Option Addr)×Nat) (fun (k,left,out,taken,A_out,qh)=>[(0,.slice A_costs qb.length qo),(1,.i qc),(7,.i r1.1),(9,.slice A taken.length c),(10,.i left),(11,.slice A_out out.length qh),(30,.slice A_costs qb.length qo),(31,.i (qb.length:Int)),(32,.i (k:Int))]) (fun (k,left,out,taken,A_out,qh)=>[Ow A_out qh 3 1 (out.map ic),Ow A c 4 1 (taken.map bc)]) (fun (k,left,out,taken,A_out,qh)=>qb.length-k) (fun (k,left,out,taken,A_out,qh)=>k≤qb.length∧R4=Jx qb qc (qb.drop k) k left out taken∧out.length≤k∧taken.length=r2.toNat) ?_ (0,r1.1,([]:List Int),(List.replicate r2.toNat false),none,0) ⟨aP _,hR,sz,sz⟩ Kr (sb 3))
   rintro⟨k,left,out,taken,A_out,qh⟩ ⟨hk,hI,kn,iq⟩
   refine Zf (Zc 1 [] [(33,.b (decide ((k:Int)<(qb.length:Int))))] {} (Z1 (TC.cond (decide ((k:Int)<(qb.length:Int))) rfl Kr (fun h2=>?_) (fun h2=>?_))))
   ·have hlt:=ltN h2
    obtain⟨x,hx⟩:=elN hlt
    have hd:=drop_at hx
    refine Yg (TC.seq (TC.block (Zf (Zc 1 [] [(34,.i (k:Int))] {} (TL.v (sV (Instr.indexAt 132 (.slice A_costs qb.length qo) (.i (k:Int)))) 35 (.pointer (some (Ix A_costs (k*1)))) (fun w hM=>Zr (xj.sat hM) (Jt qz) Kr (by (try have kg_:=X0 hr1 h1);(try have kc_:=kg_.c1);(try have kn_:=kg_.n1);(try have kw_:=Xo hr2);(try have kx_:=YO kg_ hx);exact sd) (by (try have kg_:=X0 hr1 h1);(try have kc_:=kg_.c1);(try have kn_:=kg_.n1);(try have kw_:=Xo hr2);(try have kx_:=YO kg_ hx);exact sd)) {} ?_)))))
    have w5:=(JD (XS xa k) (JW qz hx)).short;rw[aD] at w5
    refine TL.v (sV (Instr.loadAt 22 (.pointer (some (Ix A_costs (k*1)))))) 36 (.slice ((qq[k]?.getD Sl.zero).A) x.length ((qq[k]?.getD Sl.zero).cap)) (fun w hM=>(by have h:=Zu (P:=Tryz.prog) (T:=22) (off:=0) (i:=k) (.slice (qq[k]?.getD Sl.zero).A (qq[k]?.getD Sl.zero).l.length (qq[k]?.getD Sl.zero).cap) (xj.sat hM) (Z6 (getD_at _ _ Sl.zero (U9 qz (aK.1 hx).1))) Kr Kr;rw[(JW qz hx)] at h;exact h)) {} ?_
    refine Zc 5 [] [(12,.i (k:Int)),(13,.slice ((qq[k]?.getD Sl.zero).A) x.length ((qq[k]?.getD Sl.zero).cap))] {} (Zz (Zc 1 [] [(14,.i (-1))] {} (Z1 (Zf (Zc 6 [] [(37,.i qc),(38,.slice A_costs qb.length qo),(39,.i qc),(41,.i (w64 ((k:Int)+1))),(42,.slice A taken.length c)] {} (TL.c 43 (ZM qb qc (w64 ((k:Int)+1)) taken) (fun r3=>.i r3) (fun w hM=>Ua A_costs qo qb qq qc (w64 ((k:Int)+1)) A c taken w (xj.sat hM) j8 (fun s hs=>(xa s hs).sat hM) qz (hM.rd_at 1 rfl) (hM.le_at 1 rfl) (X0 hr1 h1) (by (try have kg_:=X0 hr1 h1);(try have kc_:=kg_.c1);(try have kn_:=kg_.n1);(try have kw_:=Xo hr2);(try have kx_:=YO kg_ hx);exact sg) (by (try have kg_:=X0 hr1 h1);(try have kc_:=kg_.c1);(try have kn_:=kg_.n1);(try have kw_:=Xo hr2);(try have kx_:=YO kg_ hx);exact sg)) {} (fun r3 hr3=>Zc 10 [] [(46,.b ((w64 (qc+r3))==left))] {} (Zb rfl (TC.cond ((w64 (qc+r3))==left) rfl Kr (fun h3=>?_) (fun h3=>?_))))))))))
    ·have y2:=(YT h3)
     refine TC.region (Zc 4 [] [(10,.i (w64 (left-qc)))] {} (Zb rfl (TC.region (Zc 2 [] [(86,.slice A_out out.length qh),(87,.i (-1))] {} (ZA 88 (fun b1=>.slice (Pa b1) 1 1) (fun b1=>Bk b1 #[.i (-1)] 3) (fun b1=>{}) (fun b1=>TL.os (Γ:=AN) (sV (Builtin.append_ #[22,22] 22 #[.slice A_out out.length qh,.slice (Pa b1) 1 1])) 89 (fun g=>.slice g.1 (out++([(-1)])).length g.2) 1 (fun g=>Ow g.1 g.2 3 1 ((out++([(-1)])).map ic)) (QE (bytes:=8) 22 1 ([(-1)]) Kr rfl rfl Nq rfl (fun w hM=>(Rd.lit hM 0 _ rfl Kr Kr Kr)) rfl (by (try have kg_:=X0 hr1 h1);(try have kc_:=kg_.c1);(try have kn_:=kg_.n1);(try have kw_:=Xo hr2);(try have kx_:=YO kg_ hx);exact sa)) {} ?_))))))
     rintro⟨A_2,c_2⟩
     exact Zc 5 [] [(11,.slice A_2 ((out++([(-1)])).length) c_2)] {} (Zw rfl (ZY (Z3 (TC.region (Zc 2 [] [(32,.i (w64 ((k:Int)+1)))] {} (Zw rfl (TE.rw 32 (.i (w64 ((k:Int)+1))) (.i ((k+1:Nat):Int)) Kr (ZD k (by (try have kg_:=X0 hr1 h1);(try have kc_:=kg_.c1);(try have kn_:=kg_.n1);(try have kw_:=Xo hr2);(try have kx_:=YO kg_ hx);omega)) (Z4 (x:=(k,left,out,taken,A_out,qh)) (k+1,w64 (left-qc),(out++([(-1)])),taken,A_2,c_2) ⟨by omega,hI.trans (by subst hr1 hr2 hr3;rw[hd];exact Zm h3 (rfl)),(by (try have kg_:=X0 hr1 h1);(try have kc_:=kg_.c1);(try have kn_:=kg_.n1);(try have kw_:=Xo hr2);(try have kx_:=YO kg_ hx);exact sl),(by (try have kg_:=X0 hr1 h1);(try have kc_:=kg_.c1);(try have kn_:=kg_.n1);(try have kw_:=Xo hr2);(try have kx_:=YO kg_ hx);exact sl)⟩ (mN hlt) Kr (sb 6)))))))))
    ·have y2:=(Yl h3)
     refine Zf (Zc 3 [] [(50,.slice ((qq[k]?.getD Sl.zero).A) x.length ((qq[k]?.getD Sl.zero).cap)),(51,.i (x.length:Int)),(52,.i 0)] {} (Zb rfl ?_))
     obtain⟨R5,xo⟩:∃ R,R=QW qb qc k x 0 left (-1) taken:=⟨_,rfl⟩
     refine TC.cut (S:=Int×Int×(List Bool)) (fun (w8,je,vt)=>[(0,.slice A_costs qb.length qo),(1,.i qc),(7,.i r1.1),(9,.slice A vt.length c),(10,.i w8),(11,.slice A_out out.length qh),(14,.i je),(30,.slice A_costs qb.length qo),(31,.i (qb.length:Int)),(32,.i (k:Int))]) (fun (w8,je,vt)=>[Ow A_out qh 3 1 (out.map ic),Ow A c 4 1 (vt.map bc)]) (fun (w8,je,vt)=>R5=(w8,je,vt)∧vt.length=taken.length) ?_ ?_
     ·refine TC.block (Xp (X:=Nat×Int×Int×(List Bool)) (fun (k_2,xq,choice,q8)=>[(0,.slice A_costs qb.length qo),(1,.i qc),(7,.i r1.1),(9,.slice A q8.length c),(10,.i xq),(11,.slice A_out out.length qh),(12,.i (k:Int)),(14,.i choice),(30,.slice A_costs qb.length qo),(31,.i (qb.length:Int)),(32,.i (k:Int)),(50,.slice ((qq[k]?.getD Sl.zero).A) x.length ((qq[k]?.getD Sl.zero).cap)),(51,.i (x.length:Int)),(52,.i (k_2:Int))]) (fun (k_2,xq,choice,q8)=>[Ow A_out qh 3 1 (out.map ic),Ow A c 4 1 (q8.map bc)]) (fun (k_2,xq,choice,q8)=>x.length-k_2) (fun (k_2,xq,choice,q8)=>k_2≤x.length∧R5=QW qb qc k (x.drop k_2) k_2 xq choice q8∧q8.length=taken.length) ?_ (0,left,(-1),taken) ⟨aP _,xo,sz⟩ Kr (sb 3))
      rintro⟨k_2,xq,choice,q8⟩ ⟨y4,xg,nf⟩
      refine Zf (Zc 1 [] [(53,.b (decide ((k_2:Int)<(x.length:Int))))] {} (Z1 (TC.cond (decide ((k_2:Int)<(x.length:Int))) rfl Kr (fun h4=>?_) (fun h4=>?_))))
      ·have zk:=ltN h4
       obtain⟨x_2,jf⟩:=elN zk
       have zr:=drop_at jf
       refine Yg (TC.seq (TC.block (Zf (Zc 1 [] [(54,.i (k_2:Int))] {} (TL.v (sV (Instr.indexAt 22 (.slice ((qq[k]?.getD Sl.zero).A) x.length ((qq[k]?.getD Sl.zero).cap)) (.i (k_2:Int)))) 55 (.pointer (some ((((qq[k]?.getD Sl.zero).A).getD Yz).add (k_2*1)))) (fun w hM=>Zr (JD ((XS xa k).sat hM) (JW qz hx)) (by simp) Kr (by (try have kg_:=X0 hr1 h1);(try have kc_:=kg_.c1);(try have kn_:=kg_.n1);(try have kw_:=Xo hr2);(try have kx_:=YO kg_ hx);exact sd) (by (try have kg_:=X0 hr1 h1);(try have kc_:=kg_.c1);(try have kn_:=kg_.n1);(try have kw_:=Xo hr2);(try have kx_:=YO kg_ hx);exact sd)) {} (TL.v (sV (Instr.loadAt 3 (.pointer (some ((((qq[k]?.getD Sl.zero).A).getD Yz).add (k_2*1)))))) 56 (.i x_2) (fun w hM=>Zu (off:=0) (i:=k_2) (.i x_2) (JD ((XS xa k).sat hM) (JW qz hx)) (Z6 jf) Kr Kr) {} (Zc 5 [] [(15,.i (k_2:Int)),(16,.i x_2)] {} (Z1 (Zf (Zc 3 [] [(59,.b (decide (x_2<0)))] {} (Yy 59 (decide (x_2<0)) Kr (fun h5=>?_) (fun h5=>?_))))))))))))
       ·have uf:=(ZF h5)
        refine Zc 8 [] [(64,.b true)] {} (Zb rfl (Xg rfl Kr (TC.exit (ZT (Z0 ?_)))))
        exact Z3 (TC.region (Zc 2 [] [(52,.i (w64 ((k_2:Int)+1)))] {} (Zw rfl (TE.rw 52 (.i (w64 ((k_2:Int)+1))) (.i ((k_2+1:Nat):Int)) Kr (ZD k_2 (by (try have kg_:=X0 hr1 h1);(try have kc_:=kg_.c1);(try have kn_:=kg_.n1);(try have kw_:=Xo hr2);(try have kx_:=YO kg_ hx);omega)) (Z4 (x:=(k_2,xq,choice,q8)) (k_2+1,xq,choice,q8) ⟨by omega,xg.trans (by subst hr1 hr2 hr3;rw[zr];exact Zm h5 (rfl)),(by (try have kg_:=X0 hr1 h1);(try have kc_:=kg_.c1);(try have kn_:=kg_.n1);(try have kw_:=Xo hr2);(try have kx_:=YO kg_ hx);exact sl)⟩ (mN zk) Kr (sb 3))))))
       ·have uf:=(Zv h5)
        refine Zc 5 [] [(60,.slice A q8.length c),(61,.i (k_2:Int))] {} (TL.v (sV (Instr.indexAt 137 (.slice A q8.length c) (.i (k_2:Int)))) 62 (.pointer (some (Ix A (k_2*1)))) (fun w hM=>Zr (hM.rd_at 1 rfl) (by simp) Kr (by (try have kg_:=X0 hr1 h1);(try have kc_:=kg_.c1);(try have kn_:=kg_.n1);(try have kw_:=Xo hr2);(try have kx_:=YO kg_ hx);exact sd) (by (try have kg_:=X0 hr1 h1);(try have kc_:=kg_.c1);(try have kn_:=kg_.n1);(try have kw_:=Xo hr2);(try have kx_:=YO kg_ hx);exact sd)) {} (TL.v (sV (Instr.loadAt 4 (.pointer (some (Ix A (k_2*1)))))) 63 (.b ((q8[k_2]?.getD false))) (fun w hM=>Zu (off:=0) (i:=k_2) (.b ((q8[k_2]?.getD false))) (hM.rd_at 1 rfl) (Z6 (getD_at _ _ false (by (try have kg_:=X0 hr1 h1);(try have kc_:=kg_.c1);(try have kn_:=kg_.n1);(try have kw_:=Xo hr2);(try have kx_:=YO kg_ hx);exact sd))) Kr Kr) {} (Zc 8 [] [(64,.b ((q8[k_2]?.getD false)))] {} (Zb rfl (TC.cond ((q8[k_2]?.getD false)) rfl Kr (fun h6=>?_) (fun h6=>?_))))))
        ·refine TC.exit (ZT (Z0 ?_))
         exact Z3 (TC.region (Zc 2 [] [(52,.i (w64 ((k_2:Int)+1)))] {} (Zw rfl (TE.rw 52 (.i (w64 ((k_2:Int)+1))) (.i ((k_2+1:Nat):Int)) Kr (ZD k_2 (by (try have kg_:=X0 hr1 h1);(try have kc_:=kg_.c1);(try have kn_:=kg_.n1);(try have kw_:=Xo hr2);(try have kx_:=YO kg_ hx);omega)) (Z4 (x:=(k_2,xq,choice,q8)) (k_2+1,xq,choice,q8) ⟨by omega,xg.trans (by subst hr1 hr2 hr3;rw[zr];exact Ze h5 (Zm h6 (rfl))),(by (try have kg_:=X0 hr1 h1);(try have kc_:=kg_.c1);(try have kn_:=kg_.n1);(try have kw_:=Xo hr2);(try have kx_:=YO kg_ hx);exact sl)⟩ (mN zk) Kr (sb 3))))))
        ·refine Yc (Zc 2 [] [(65,.slice A q8.length c),(66,.i (k_2:Int))] {} (TL.v (sV (Instr.indexAt 137 (.slice A q8.length c) (.i (k_2:Int)))) 67 (.pointer (some (Ix A (k_2*1)))) (fun w hM=>Zr (hM.rd_at 1 rfl) (by simp) Kr (by (try have kg_:=X0 hr1 h1);(try have kc_:=kg_.c1);(try have kn_:=kg_.n1);(try have kw_:=Xo hr2);(try have kx_:=YO kg_ hx);exact sd) (by (try have kg_:=X0 hr1 h1);(try have kc_:=kg_.c1);(try have kn_:=kg_.n1);(try have kw_:=Xo hr2);(try have kx_:=YO kg_ hx);exact sd)) {} (KF (Γ:=Unit) (sU (Instr.storeAt 4 (.pointer (some ((Ix A (k_2*1)).add 0))) (.b true))) 1 (Ow A c 4 1 ((q8.set k_2 true).map bc)) (Y2 (n:=1) (off:=0) (.b true) 1 ((q8.set k_2 true).map bc) rfl (Z6 (getD_at _ _ false (by (try have kg_:=X0 hr1 h1);(try have kc_:=kg_.c1);(try have kn_:=kg_.n1);(try have kw_:=Xo hr2);(try have kx_:=YO kg_ hx);exact sd))) Kr Kr Kr Kr (YJ Kr)) Kr (TL.rw 9 (.slice A q8.length c) (.slice A ((q8.set k_2 true).length) c) Kr (by simp only[aL]) (Z1 (Zf (Zc 6 [] [(68,.i x_2),(69,.slice A_costs qb.length qo),(70,.i qc),(72,.i (w64 ((k:Int)+1))),(73,.slice A ((q8.set k_2 true).length) c)] {} (TL.c 74 (ZM qb qc (w64 ((k:Int)+1)) (q8.set k_2 true)) (fun r4=>.i r4) (fun w hM=>Ua A_costs qo qb qq qc (w64 ((k:Int)+1)) A c (q8.set k_2 true) w (xj.sat hM) j8 (fun s hs=>(xa s hs).sat hM) qz (hM.rd_at 1 rfl) (hM.le_at 1 rfl) (X0 hr1 h1) (by (try have kg_:=X0 hr1 h1);(try have kc_:=kg_.c1);(try have kn_:=kg_.n1);(try have kw_:=Xo hr2);(try have kx_:=YO kg_ hx);exact sg) (by (try have kg_:=X0 hr1 h1);(try have kc_:=kg_.c1);(try have kn_:=kg_.n1);(try have kw_:=Xo hr2);(try have kx_:=YO kg_ hx);exact sg)) {} (fun r4 hr4=>Zc 10 [] [(77,.b ((w64 (x_2+r4))==xq))] {} (Zb rfl (TC.cond ((w64 (x_2+r4))==xq) rfl Kr (fun h7=>?_) (fun h7=>?_))))))))))))
         ·have yr:=(YT h7)
          refine Zf (Zc 2 [] [(14,.i (k_2:Int))] {} (Zz (Zc 4 [] [(10,.i (w64 (xq-x_2)))] {} (Zb rfl (TC.exit (ZT (Wv rfl (ZT (ZT (Z0 ?_))))))))))
          exact TE.cut (w64 (xq-x_2),(k_2:Int),(q8.set k_2 true)) (⟨xg.trans (by subst hr1 hr2 hr3 hr4;rw[zr];exact Ze h5 (Ze h6 (Zm h7 (rfl)))),(by (try have kg_:=X0 hr1 h1);(try have kc_:=kg_.c1);(try have kn_:=kg_.n1);(try have kw_:=Xo hr2);(try have kx_:=YO kg_ hx);exact sl)⟩) Kr (sb 3)
         ·have yr:=(Yl h7)
          exact Yg (TC.region (Zc 2 [] [(82,.slice A ((q8.set k_2 true).length) c),(83,.i (k_2:Int))] {} (TL.v (sV (Instr.indexAt 137 (.slice A ((q8.set k_2 true).length) c) (.i (k_2:Int)))) 84 (.pointer (some (Ix A (k_2*1)))) (fun w hM=>Zr (hM.rd_at 1 rfl) (by simp) Kr (by (try have kg_:=X0 hr1 h1);(try have kc_:=kg_.c1);(try have kn_:=kg_.n1);(try have kw_:=Xo hr2);(try have kx_:=YO kg_ hx);exact sd) (by (try have kg_:=X0 hr1 h1);(try have kc_:=kg_.c1);(try have kn_:=kg_.n1);(try have kw_:=Xo hr2);(try have kx_:=YO kg_ hx);exact sd)) {} (KF (Γ:=Unit) (sU (Instr.storeAt 4 (.pointer (some ((Ix A (k_2*1)).add 0))) (.b false))) 1 (Ow A c 4 1 (((q8.set k_2 true).set k_2 false).map bc)) (Y2 (n:=1) (off:=0) (.b false) 1 (((q8.set k_2 true).set k_2 false).map bc) rfl (Z6 (getD_at _ _ false (by (try have kg_:=X0 hr1 h1);(try have kc_:=kg_.c1);(try have kn_:=kg_.n1);(try have kw_:=Xo hr2);(try have kx_:=YO kg_ hx);exact sd))) Kr Kr Kr Kr (YJ Kr)) Kr (TL.rw 9 (.slice A ((q8.set k_2 true).length) c) (.slice A (((q8.set k_2 true).set k_2 false).length) c) Kr (by simp only[aL]) (Zw rfl (ZY (Z3 (TC.region (Zc 2 [] [(52,.i (w64 ((k_2:Int)+1)))] {} (Zw rfl (TE.rw 52 (.i (w64 ((k_2:Int)+1))) (.i ((k_2+1:Nat):Int)) Kr (ZD k_2 (by (try have kg_:=X0 hr1 h1);(try have kc_:=kg_.c1);(try have kn_:=kg_.n1);(try have kw_:=Xo hr2);(try have kx_:=YO kg_ hx);omega)) (Z4 (x:=(k_2,xq,choice,q8)) (k_2+1,xq,choice,((q8.set k_2 true).set k_2 false)) ⟨by omega,xg.trans (by subst hr1 hr2 hr3 hr4;rw[zr];exact Ze h5 (Ze h6 (Ze h7 (rfl)))),(by (try have kg_:=X0 hr1 h1);(try have kc_:=kg_.c1);(try have kn_:=kg_.n1);(try have kw_:=Xo hr2);(try have kx_:=YO kg_ hx);exact sl)⟩ (mN zk) Kr (sb 3))))))))))))))
      ·have zr:=Qb h4
       refine TC.exit (ZT (ZT (Z0 ?_)))
       exact TE.cut (xq,choice,q8) (⟨xg.trans (by subst hr1 hr2 hr3;rw[zr];exact rfl),(by (try have kg_:=X0 hr1 h1);(try have kc_:=kg_.c1);(try have kn_:=kg_.n1);(try have kw_:=Xo hr2);(try have kx_:=YO kg_ hx);exact sl)⟩) Kr (sb 3)
     ·rintro⟨w8,je,vt⟩ ⟨jv,ng⟩
      refine Z3 (TC.region (Zc 2 [] [(86,.slice A_out out.length qh),(87,.i je)] {} (ZA 88 (fun b2=>.slice (Pa b2) 1 1) (fun b2=>Bk b2 #[.i je] 3) (fun b2=>{}) (fun b2=>TL.os (Γ:=AN) (sV (Builtin.append_ #[22,22] 22 #[.slice A_out out.length qh,.slice (Pa b2) 1 1])) 89 (fun g=>.slice g.1 (out++([je])).length g.2) 1 (fun g=>Ow g.1 g.2 3 1 ((out++([je])).map ic)) (QE (bytes:=8) 22 1 ([je]) Kr rfl rfl Nq rfl (fun w hM=>(Rd.lit hM 0 _ rfl Kr Kr Kr)) rfl (by (try have kg_:=X0 hr1 h1);(try have kc_:=kg_.c1);(try have kn_:=kg_.n1);(try have kw_:=Xo hr2);(try have kx_:=YO kg_ hx);exact sa)) {} ?_))))
      rintro⟨A_3,c_3⟩
      exact Zc 5 [] [(11,.slice A_3 ((out++([je])).length) c_3)] {} (Zw rfl (ZY (Z3 (TC.region (Zc 2 [] [(32,.i (w64 ((k:Int)+1)))] {} (Zw rfl (TE.rw 32 (.i (w64 ((k:Int)+1))) (.i ((k+1:Nat):Int)) Kr (ZD k (by (try have kg_:=X0 hr1 h1);(try have kc_:=kg_.c1);(try have kn_:=kg_.n1);(try have kw_:=Xo hr2);(try have kx_:=YO kg_ hx);omega)) (Z4 (x:=(k,left,out,taken,A_out,qh)) (k+1,w8,(out++([je])),vt,A_3,c_3) ⟨by omega,hI.trans (by subst hr1 hr2 hr3;rw[hd];exact Ze h3 (Yr (xo.symm.trans jv) (rfl))),(by (try have kg_:=X0 hr1 h1);(try have kc_:=kg_.c1);(try have kn_:=kg_.n1);(try have kw_:=Xo hr2);(try have kx_:=YO kg_ hx);exact sl),(by (try have kg_:=X0 hr1 h1);(try have kc_:=kg_.c1);(try have kn_:=kg_.n1);(try have kw_:=Xo hr2);(try have kx_:=YO kg_ hx);exact sl)⟩ (mN hlt) Kr (sb 6)))))))))
   ·have hd:=Qb h2
    refine TC.exit (ZT (ZT (Z0 ?_)))
    exact TE.cut (out,taken,A_out,qh) (⟨hI.trans (by subst hr1 hr2;rw[hd];exact rfl),(by (try have kg_:=X0 hr1 h1);(try have kc_:=kg_.c1);(try have kn_:=kg_.n1);(try have kw_:=Xo hr2);(try have kx_:=YO kg_ hx);exact sl),(by (try have kg_:=X0 hr1 h1);(try have kc_:=kg_.c1);(try have kn_:=kg_.n1);(try have kw_:=Xo hr2);(try have kx_:=YO kg_ hx);exact sl)⟩) Kr (sb 1)
  ·rintro⟨qk,yz,A_out_2,qe⟩ ⟨hJ,jw,nh⟩
   refine YC (Zc 5 [] [(4,.slice A_out_2 qk.length qe),(5,.i r1.1),(6,.i 0)] {} (Zb rfl (TC.ret ?_)))
   have e:Y5 qb qc=(qk,r1.1,0):=by subst hr1 hr2;unfold Y5;exact Ze h1 (Yr (hR.symm.trans hJ) (rfl))
   rw[e]
   exact ZO (.inl rfl) (A_out_2,qe) [] (.tuple #[.slice A_out_2 qk.length qe,.i r1.1,.i 0]) {} rfl (fun _ hM=>hM.sub (sb 1))
end Go.Sky
end
section
namespace Go.Sky
open Go Go.Eng
section
variable (c0:Int) (c1:List Za)
theorem TA:∀ (l:List followed) (k:Nat),(Xv c0 c1 l k=.inl ()∧∀ x∈l,ZJ x c0 c1=false) ∨
  ∃ j:Nat,Xv c0 c1 l k=.inr ((k+j:Nat):Int)∧(∀ x∈l.take j,ZJ x c0 c1=false)∧∃ x,l[j]?=some x∧ZJ x c0 c1=true
 | [],k=>.inl ⟨rfl,by simp⟩
 | x::xs,k=>by
  unfold Xv
  simp only
  cases hx:ZJ x c0 c1 with
  | true=>exact .inr ⟨0,rfl,by simp,x,rfl,hx⟩
  | false =>
   rcases TA xs (k+1) with ⟨h,h2⟩|⟨j,h,h2,y,h3,h4⟩
   ·refine .inl ⟨h,fun y hy=>?_⟩
    rcases bB.1 hy with rfl|hy
    ·exact hx
    ·exact h2 y hy
   ·refine .inr ⟨j+1,?_,fun y hy=>?_,y,?_,h4⟩
    ·rw[cond_false,h];congr 2;omega
    ·rw[fC] at hy
     rcases bB.1 hy with rfl|hy
     ·exact hx
     ·exact h2 y hy
    ·rw[bG];exact h3
theorem H5 {α:Type} {l:List α} {j:Nat} {x:α} (h:l[j]?=some x):l.take (j+1)=l.take j ++ [x]:=by
 rw[gQ,h];rfl
theorem Df {α:Type} {l:List α} {a:Nat} (x:α) (h:a<l.length):(l.set a x).take (a+1)=l.take a ++ [x]:=by
 rw[H5 (x:=x) (by rw[dE h]),List.take_set_of_le (aU a)]
theorem RX (s:List followed) (n:Nat) (hs:s.length<1000000000000):∀ (m k a:Nat) (s2:List followed),s.length=n+1+k+m→s2.length=s.length→a≤n+1+k→s2.drop (n+1+k)=s.drop (n+1+k) →
  s2.take a=(s.take (n+1+k)).filter (fun x=>!ZJ x c0 c1) →
  ∃ (b:Nat) (s3:List followed),Qn c0 c1 (n:Int) m k (a:Int) s2=((b:Int),s3)∧b≤s.length∧s3.length=s.length∧s3.take b=s.filter (fun x=>!ZJ x c0 c1)
 | 0,k,a,s2,h1,h2,h3,_,h5=>by
  refine⟨a,s2,rfl,by omega,h2,?_⟩
  rw[h5,cA (by omega)]
 | m+1,k,a,s2,h1,h2,h3,h4,h5=>by
  have hj:n+1+k<s.length:=by omega
  have ei:(((n:Int)+1)+(k:Int)).toNat=n+1+k:=by omega
  have hx:s[n+1+k]?=some (s[n+1+k]'hj):=aM hj
  generalize s[n+1+k]'hj=x at hx
  have hx2:s2[n+1+k]?=some x:=by
   have:=congrArg (fun l=>l[0]?) h4
   simp only[cN,bZ] at this
   rw[this,hx]
  have hd:s2.drop (n+1+(k+1))=s.drop (n+1+(k+1)):=by
   have:=congrArg (fun l=>l.drop 1) h4
   simp only[dA] at this
   rw[show n+1+(k+1)=n+1+k+1 by omega]
   exact this
  have ht:s.take (n+1+(k+1))=s.take (n+1+k) ++ [x]:=by
   rw[show n+1+(k+1)=n+1+k+1 by omega];exact H5 hx
  unfold Qn
  simp only
  rw[ei,hx2,cV]
  cases hg:ZJ x c0 c1 with
  | true =>
   rw[cD,cond_false]
   refine RX s n hs m (k+1) a s2 (by omega) h2 (by omega) hd ?_
   rw[h5,ht,gM]
   simp[hg]
  | false =>
   rw[eF,cond_true,Zt (by omega),show (a:Int)+1=((a+1:Nat):Int) by omega,aO]
   refine RX s n hs m (k+1) (a+1) (s2.set a x) (by omega) (by rw[aL];exact h2) (by omega) ?_ ?_
   ·rw[List.drop_set_of_lt (by omega)];exact hd
   ·rw[Df x (by omega),h5,ht,gM]
    simp[hg]
theorem FK (s:List followed) (hs:s.length<1000000000000):XP s c0 c1=s.filter (fun x=>!ZJ x c0 c1):=by
 unfold XP QV
 rcases TA c0 c1 s 0 with ⟨h,h2⟩|⟨j,h,h2,y,h3,h4⟩
 ·rw[h]
  show s=_
  exact(gC.2 (fun x hx=>by simp[h2 x hx])).symm
 ·rw[h,bY]
  have hj:j<s.length:=(aK.1 h3).1
  simp only[Sum.elim_inr]
  rw[show ((j:Int)==(-1))=false from beq_eq_false_iff_ne.2 (by omega),cond_false]
  obtain⟨b,s3,e,hb,hl,ht⟩:=RX c0 c1 s j hs (s.length-(j+1)) 0 j s (by omega) rfl (by omega) rfl (by
   rw[bZ,H5 h3,gM,gC.2 (fun x hx=>by simp[h2 x hx])]
   simp[h4])
  rw[show ((s.length:Int)-((j:Int)+1)).toNat=s.length-(j+1) by omega,e]
  show (s3.take (b:Int).toNat++_).take (b:Int).toNat=_
  rw[aO,fT (by rw[aZ];omega),hZ,Nat.min_self,ht]
end
theorem LC {t r:Zi} {time:Int} (hr:ZR t time=r) (h:t.all.length≤64):∃ now,r=⟨t.rules,t.all.filter (fun x=>!ZJ x time now),t.next,t.last⟩:=by
 subst hr
 unfold ZR YB
 simp only
 exact⟨_,by rw[FK _ _ _ (by omega)]⟩
theorem Oa {t r:Zi} {time:Int} (hr:ZR t time=r) (h:t.all.length≤64):r.all.length≤t.all.length:=by
 obtain⟨now,rfl⟩:=LC hr h
 exact List.length_filter_le ..
end Go.Sky
namespace Go.Sky
open Go Go.Eng Go.Glue Go.Srt
def Sp (time:Int) (l:List Zj):Prop:=∀ s∈l,s.In∧s.Time=time
def Tr (time:Int) (l:List Track):Prop:=∀ t∈l,t.In∧t.Time=time
theorem LD (time:Int):∀ (xs:List Zj) (k:Nat),(Xj time xs k=.inl ()∧Sp time xs)∨(∃ e,Xj time xs k=.inr e∧e≠0)∧¬ Sp time xs
 | [],_=>.inl ⟨rfl,fun _ h=>by cases h⟩
 | x::xs,k=>by
  unfold Xj
  simp only
  rcases VM x with ⟨h1,h2⟩|⟨h1,h2⟩
  ·rw[h1,show ((0:Int) != 0)=false from rfl,cond_false]
   by_cases ht:x.Time=time
   ·rw[show (x.Time != time)=false by simpa using ht,cond_false]
    rcases LD time xs (k+1) with ⟨h,h3⟩|⟨h,h3⟩
    ·refine .inl ⟨h,fun s hs=>?_⟩
     rcases bB.1 hs with rfl|hs
     ·exact⟨h2,ht⟩
     ·exact h3 s hs
    ·exact .inr ⟨h,fun hh=>h3 fun s hs=>hh s (aG _ hs)⟩
   ·rw[show (x.Time != time)=true by simpa using ht,cond_true]
    exact .inr ⟨⟨12,rfl,by decide⟩,fun hh=>ht (hh x (aJ ..)).2⟩
  ·rw[h1,show ((4:Int) != 0)=true from rfl,cond_true]
   exact .inr ⟨⟨4,rfl,by decide⟩,fun hh=>h2 (hh x (aJ ..)).1⟩
theorem G2 {t:Zi} {l:List Zj} {time:Int}:Yf t l time=0↔l.length≤32∧(0≤time∧time≤200000)∧t.last<time∧Sp time l:=by
 unfold Yf
 simp only[XD]
 by_cases h1:(l.length:Int)>32
 ·rw[if_pos (decide_eq_true h1)]
  exact⟨fun h=>(by cases h),fun h=>by omega⟩
 ·rw[if_neg (by simpa using h1)]
  by_cases h2:0≤time∧time≤200000
  ·rw[if_neg (by simp;omega)]
   by_cases h3:time≤t.last
   ·rw[if_pos (decide_eq_true h3)]
    exact⟨fun h=>(by cases h),fun h=>by omega⟩
   ·rw[if_neg (by simpa using h3)]
    rcases LD time l 0 with ⟨h,h4⟩|⟨⟨e,h,he⟩,h4⟩
    ·rw[h]
     exact⟨fun _=>⟨by omega,h2,by omega,h4⟩,fun _=>rfl⟩
    ·rw[h]
     exact⟨fun hh=>absurd hh he,fun hh=>absurd hh.2.2.2 h4⟩
  ·rw[if_pos (by simp;omega)]
   exact⟨fun h=>(by cases h),fun h=>absurd h.2.1 h2⟩
theorem Dh {qi:Int}:∀ (xs:List Zj) (k:Nat) (out:List Zj),∃ ys,ys.Sublist xs∧Qc qi xs k out=out++ys
 | [],_,out=>⟨[],.slnil,by unfold Qc;rw[bU]⟩
 | x::xs,k,out=>by
  unfold Qc
  simp only
  cases XL out x qi
  ·rw[eF,cond_true]
   obtain⟨ys,h1,h2⟩:=Dh (qi:=qi) xs (k+1) (out ++ [x])
   exact⟨x::ys,h1.cons_cons x,by rw[h2,bT];rfl⟩
  ·rw[cD,cond_false]
   obtain⟨ys,h1,h2⟩:=Dh (qi:=qi) xs (k+1) out
   exact⟨ys,h1.cons x,h2⟩
theorem HU {time:Int}:∀ (xs:List Zj) (k:Nat),Sp time xs→K2 xs k=.inl ()
 | [],_,_=>rfl
 | x::xs,k,h=>by
  unfold K2
  simp only
  rw[Jo.2 (h x (aJ ..)).1]
  exact HU xs (k+1) fun s hs=>h s (aG _ hs)
theorem Di {l:List Zj} {time:Int} (hl:l.length≤32) (h:Sp time l):YP l 500=(Qc 500 (Gq l) 0 [],0):=by
 unfold YP
 rw[show decide ((l.length:Int)>128)=false by simp;omega,cond_false,HU l 0 h]
 rfl
theorem LE {l:List Zj} {time:Int} {r:List Zj×Int} (hl:l.length≤32) (h:Sp time l) (hr:YP l 500=r):r.1.length≤l.length∧Sp time r.1:=by
 subst hr
 rw[Di hl h]
 obtain⟨ys,h1,h2⟩:=Dh (qi:=500) (Gq l) 0 []
 rw[bK] at h2
 simp only
 rw[h2]
 have hp:(Gq l).Perm l:=gD ..
 exact⟨by have:=h1.length_le;rw[hp.length_eq] at this;exact this,fun s hs=>h s (hp.mem_iff.1 (h1.mem hs))⟩
def Jl (t:Track) (qi:Int) (s:Zj):Int:=cond (X9 t s qi).1 (YF (w64 ((ZN t.At s.At).tdiv 10000)) 1073741824) (-1)
theorem E1 {t:Track} {s:Zj} {qi time:Int} (hb:0≤qi∧qi≤60000) (ht:t.In∧t.Time=time) (hs:s.In∧s.Time=time):(X9 t s qi).2=0:=by
 have e1:Yt t=0:=by
  rcases U2 t with ⟨h,_⟩|⟨_,h⟩
  ·exact h
  ·exact absurd ht.1 h
 unfold X9
 rw[e1,Jo.2 hs.1]
 simp only[XD]
 rw[if_neg (by decide),if_neg (by decide),if_neg (by simp;omega),if_neg (by rw[ht.2,hs.2];simp)]
 split
 ·split
  ·rfl
  ·split <;> rfl
 ·rfl
theorem TB {t:Track} {s:Zj} {qi:Int} (ht:t.In) (hs:s.In):-1≤Jl t qi s∧Jl t qi s≤1099511627776:=by
 unfold Jl
 cases (X9 t s qi).1
 ·exact⟨show (-1:Int) ≤ -1 by decide,show (-1:Int)≤1099511627776 by decide⟩
 ·rw[cond_true]
  have h:=GN ht.2.1 hs.2.1
  have h1:0≤ZN t.At s.At/10000∧ZN t.At s.At/10000≤ZN t.At s.At:=WO h.2.1 (by decide)
  rw[UA 10000 h.2.1,Zt (by omega)]
  unfold YF
  split <;> omega
theorem LF {qi time:Int} {x:Track} (hb:0≤qi∧qi≤60000) (hx:x.In∧x.Time=time):∀ (l:List Zj) (k:Nat) (row:List Int),row.length=k+l.length→Sp time l→Jp qi x l k row=.inl (row.take k++l.map (Jl x qi))
 | [],k,row,h,_=>by
  show Sum.inl row=_
  rw[List.map_nil,bU,cA (by simp at h;omega)]
 | s::l,k,row,h,hs=>by
  rw[aI] at h
  unfold Jp
  simp only
  rw[E1 hb hx (hs s (aJ ..)),show ((0:Int) != 0)=false from rfl,cond_false]
  have key:∀ v:Int,v=Jl x qi s→∀ uv:List Int,uv=row.set k v→Jp qi x l (k+1) uv=.inl (row.take k++(s::l).map (Jl x qi)):=by
   intro v hv uv hr
   subst hr
   rw[LF hb hx l (k+1) (row.set k v) (by rw[aL];omega) (fun s hs'=>hs s (aG _ hs')),Df v (by omega),bT,dT,hv];rfl
  cases hf:(X9 x s qi).1
  ·exact key (-1) (by unfold Jl;rw[hf];rfl) _ rfl
  ·exact key _ (by unfold Jl;rw[hf,cond_true]) _ (by rw[List.set_set])
theorem LG {q6:List Zj} {qi time:Int} (hb:0≤qi∧qi≤60000) (hs:Sp time q6):∀ (l:List Track) (k:Nat) (out:List (List Int)),Tr time l→JP q6 qi l k out=.inl (out++l.map (fun t=>q6.map (Jl t qi)))
 | [],k,out,_=>by show Sum.inl out=_;simp
 | x::l,k,out,h=>by
  unfold JP
  rw[LF hb (h x (aJ ..)) q6 0 (List.replicate ((q6.length:Int).toNat) (0:Int)) (by simp) hs,List.take_zero,bK]
  show JP q6 qi l (k+1) (out ++ [q6.map (Jl x qi)])=_
  rw[LG hb hs l (k+1) _ (fun t ht=>h t (aG _ ht)),bT];rfl
theorem LH {tr:List Track} {q6:List Zj} {qi time:Int} (h1:tr.length≤32) (h2:q6.length≤32) (hb:0≤qi∧qi≤60000) (ht:Tr time tr) (hs:Sp time q6):XF tr q6 qi=(tr.map (fun t=>q6.map (Jl t qi)),0):=by
 unfold XF
 rw[show ((decide ((tr.length:Int)>32))||(decide ((q6.length:Int)>32)))=false by simp;omega,cond_false,LG hb hs tr 0 [] ht]
 rfl
theorem UW.ins {qc:Int} {n:Nat} {rows:List (List Int)} {taken:List Bool} {to:List Int} {t:Int} (h:UW qc rows taken to t):(∀ r∈rows,r.length=n)→∀ k∈to,k<(n:Int):=by
 induction h with
 | nil taken=>intro _ k hk;cases hk
 | skip _ ih =>
  intro hr k hk
  rcases bB.1 hk with rfl|hk
  ·omega
  ·exact ih (fun r h=>hr r (aG _ h)) k hk
 | pick k h1 h2 h3 _ ih =>
  intro hr q hq
  rcases bB.1 hq with rfl|hq
  ·have:=hr _ (aJ ..);omega
  ·exact ih (fun r h=>hr r (aG _ h)) q hq
theorem Ob:∀ (xs:List Int) (k:Nat),(∀ c∈xs,-1≤c∧c≤1099511627776)→Qg xs k=.inl ()
 | [],_,_=>rfl
 | x::xs,k,h=>by
  have hx:=h x (aJ ..)
  unfold Qg
  rw[show ((decide (x<(-1)))||(decide (x>1099511627776)))=false by simp;omega,cond_false]
  exact Ob xs (k+1) fun c hc=>h c (aG _ hc)
theorem NF {qb:List (List Int)} {n:Nat} (hn:n≤32) (h0:qb ≠ []→(qb[0]?.getD []).length=n):∀ (xs:List (List Int)) (k:Nat),(∀ r∈xs,r∈qb∧r.length=n∧∀ c∈r,-1≤c∧c≤1099511627776)→Qh qb xs k=.inl ()
 | [],_,_=>rfl
 | x::xs,k,h=>by
  obtain⟨h1,h2,h3⟩:=h x (aJ ..)
  unfold Qh
  rw[show decide ((x.length:Int)>32)=false by simp;omega,cond_false,h0 (fun e=>by rw[e] at h1;cases h1),h2,show ((n:Int) != (n:Int))=false by simp,cond_false,Ob x 0 h3]
  exact NF hn h0 xs (k+1) fun r hr=>h r (aG _ hr)
theorem E2 {tr:List Track} {q6:List Zj} {qi time:Int} {r4:List (List Int)×Int} {r5:List Int×Int×Int} (h1:tr.length≤32) (h2:q6.length≤32) (hb:0≤qi∧qi≤60000) (ht:Tr time tr) (hs:Sp time q6)
  (h4:XF tr q6 qi=r4) (h5:Y5 r4.1 2147483648=r5):r5.1.length=tr.length∧∀ k∈r5.1,k<(q6.length:Int):=by
 rw[LH h1 h2 hb ht hs] at h4
 subst h4
 have ug:∀ r∈tr.map (fun t=>q6.map (Jl t qi)),r.length=q6.length:=by
  intro r hr
  obtain⟨t,_,rfl⟩:=bD.1 hr
  exact aD ..
 have hc:Yn (tr.map (fun t=>q6.map (Jl t qi))) 2147483648=0:=by
  unfold Yn
  rw[show decide (((tr.map (fun t=>q6.map (Jl t qi))).length:Int)>32)=false by rw[aD];simp;omega,cond_false,NF h2 (fun hne=>?_) _ 0 (fun r hr=>⟨hr,ug r hr,fun c hc=>?_⟩)]
  ·rfl
  ·cases hm:tr with
   | nil=>rw[hm] at hne;exact absurd rfl hne
   | cons a b=>simp
  ·obtain⟨t,ht',rfl⟩:=bD.1 hr
   obtain⟨s,hs',rfl⟩:=bD.1 hc
   exact TB (ht t ht').1 (hs s hs').1
 obtain⟨to,e,p⟩:=GQ hc
 rw[e] at h5
 subst h5
 exact⟨by rw[p.len,aD],p.ins ug⟩
theorem WW {f:Za} {t a:Int} (h:(Z5 f t a).2=0):(Z5 f t a).1.Track.Time=t∧(Z5 f t a).1.Track.ID=f.Track.ID:=by
 unfold Z5 at h ⊢
 simp only[XD] at h ⊢
 by_cases h1:(ZP f != 0)=true
 ·rw[if_pos h1] at h;simp at h h1;exact absurd h h1
 ·rw[if_neg h1] at h ⊢
  have hc:f.In:=J4.1 (by simpa using h1)
  have hct:=hc.1.1
  by_cases h2:Yw t 0 200000=true
  ·rw[if_pos h2] at h;cases h
  ·rw[if_neg h2] at h ⊢
   have ht:0≤t∧t≤200000:=by rw[VX] at h2;simpa using h2
   by_cases h3:Yw a 0 20=true
   ·rw[if_pos h3] at h;cases h
   ·rw[if_neg h3] at h ⊢
    by_cases h4:Yw (w64 (t-f.Track.Time)) 0 600=true
    ·rw[if_pos h4] at h;cases h
    ·rw[if_neg h4] at h ⊢
     by_cases h5:(w64 (t-f.Track.Time)==0)=true
     ·rw[if_pos h5]
      have h6:w64 (t-f.Track.Time)=0:=by simpa using h5
      rw[Zt (by omega)] at h6
      exact⟨by show f.Track.Time=t;omega,rfl⟩
     ·rw[if_neg h5] at h ⊢
      split at h
      ·cases h
      ·rename_i h6;rw[if_neg h6];exact⟨rfl,rfl⟩
theorem Dj (t:Zi):∀ (xs:List followed) (k:Nat) (out:List followed),(Z7 t xs k out).length≤out.length+xs.length
 | [],_,out=>by show out.length≤_;simp
 | x::xs,k,out=>by
  unfold Z7
  have h:∀ o:List followed,o.length≤out.length+1→(Z7 t xs (k+1) o).length≤out.length+(x::xs).length:=fun o ho=>by
   have:=Dj t xs (k+1) o
   rw[aI];omega
  simp only[XD]
  split
  ·split
   ·exact h _ (by omega)
   ·split
    ·exact h _ (by simp)
    ·exact h _ (by simp)
  ·exact h _ (by simp)
theorem HV {t r:Zi} (hr:Z8 t=r):r.all.length≤t.all.length:=by
 subst hr
 have:=Dj t t.all 0 []
 simpa[Z8,YB] using this
end Go.Sky
end
