/- Lemmas toward the given statement (part 17 of 20): Ta Wire Mark Fb. Each theorem states its own conditions; nothing is assumed beyond them. -/
import Derived.Test.YtmiemlhgkgfkeaaGreatDoorTw16
import Derived.Test.YtmiemlhgkgfkeaaGreatDoorTw03
import Derived.Test.YtmiemlhgkgfkeaaGreatDoorRows
import Derived.Test.YtmiemlhgkgfkeaaGreatDoorTw02
import Derived.Laws.IdiomStrings
set_option maxRecDepth 100000
section
namespace Go.Sky
open Go Go.Eng Go.Proofs
def Yv (n:Int) (low:Int) (high:Int):Int :=
 w64 (low+((w64 ((n.tmod (w64 ((w64 (high-low))+1)))+(w64 ((w64 (high-low))+1)))).tmod (w64 ((w64 (high-low))+1))))
theorem TX {n low high r:Int} (hr:Yv n low high=r) (h:low≤high) (h1:-1000000000000≤low) (h2:high≤1000000000000) :
  r=low+(n.tmod (high-low+1)+(high-low+1)).tmod (high-low+1)∧low≤r∧r≤high:=by
 subst hr
 unfold Yv
 have s:w64 ((w64 (high-low))+1)=high-low+1:=by rw[Zu (x:=high-low) (by omega),Zu (by omega)]
 simp only[s]
 have t1:=fV n (show 0<high-low+1 by omega)
 have t2:=Int.lt_tmod_of_pos n (show 0<high-low+1 by omega)
 rw[Zu (x:=n.tmod (high-low+1)+(high-low+1)) (by omega)]
 have t3:=fV (n.tmod (high-low+1)+(high-low+1)) (show 0<high-low+1 by omega)
 have t4:=Int.tmod_nonneg (high-low+1) (show 0≤n.tmod (high-low+1)+(high-low+1) by omega)
 rw[Zu (by omega)]
 omega
theorem GY {n low high r:Int} (hr:Yv n low high=r) (h:low≤high) (h1:-1000000000000≤low) (h2:high≤1000000000000):low≤r∧r≤high:=(TX hr h h1 h2).2
theorem JC (n:Int) (low:Int) (high:Int) (w:World) (hs:w64 ((w64 (high-low))+1)≠0):Calls Tryz.prog 16 #[.int .i64 n,.int .i64 low,.int .i64 high] w (Ret w (.int .i64 (Yv n low high))):=by
 exact Zo (vs:=[.i n,.i low,.i high]) (w:=w) Tryz.func16 rfl Tryz.ntmps16 rfl (Ze (Zc 1 [] [(6,.i 0)] {} (Zv (Zc 5 [] [(7,.i (w64 ((w64 (high-low))+1)))] {} (Zv (Zc 3 [] [(12,.i low),(13,.i n),(14,.i (w64 ((w64 (high-low))+1)))] {} (TL.v (sV (binOp .rem 3 (.i n) (.i (w64 ((w64 (high-low))+1))))) 15 (.i (n.tmod (w64 ((w64 (high-low))+1)))) (fun w hM=>Bo sdr) {} (Zc 7 [] [(17,.i (w64 ((n.tmod (w64 ((w64 (high-low))+1)))+(w64 ((w64 (high-low))+1))))),(18,.i (w64 ((w64 (high-low))+1)))] {} (TL.v (sV (binOp .rem 3 (.i (w64 ((n.tmod (w64 ((w64 (high-low))+1)))+(w64 ((w64 (high-low))+1))))) (.i (w64 ((w64 (high-low))+1))))) 19 (.i ((w64 ((n.tmod (w64 ((w64 (high-low))+1)))+(w64 ((w64 (high-low))+1)))).tmod (w64 ((w64 (high-low))+1)))) (fun w hM=>Bo sdr) {} (Zc 10 [] [(6,.i (w64 (low+((w64 ((n.tmod (w64 ((w64 (high-low))+1)))+(w64 ((w64 (high-low))+1)))).tmod (w64 ((w64 (high-low))+1))))))] {} (Zb rfl (TC.ret (TE.ret [] (.i (w64 (low+((w64 ((n.tmod (w64 ((w64 (high-low))+1)))+(w64 ((w64 (high-low))+1)))).tmod (w64 ((w64 (high-low))+1)))))) {} (by unfold Yv;refine eS (fun z=>(.i z:Value)) ?_;exact rfl))))))))))))))
def XV:ZB :=
 (⟨2,3,4,1,160,128⟩:ZB)
theorem WC (w:World):Calls Tryz.prog 18 #[] w (Ret w (ZB.v (XV))):=by
 exact Zo (vs:=[]) (w:=w) Tryz.func18 rfl Tryz.ntmps18 rfl (Ze (ZH 0 (fun b1=>.p0 b1) (fun b1=>Bk b1 (ZB.c ZB.zero) 64) (fun b1=>{}) (fun b1=>Zv (Zc 1 [] [(1,ZB.v (⟨2,3,4,1,160,128⟩:ZB))] {} (Ym 0 (Bk b1 (ZB.c (⟨2,3,4,1,160,128⟩:ZB)) 64) (fun _=>{}) (Zb rfl (TC.ret (TE.ret [0] (ZB.v (⟨2,3,4,1,160,128⟩:ZB)) {} (by unfold XV;refine eS (fun z=>(ZB.v z:Value)) ?_;exact rfl)))))))))
def Xi:List Zl :=
 [(⟨1,⟨(-20000),0⟩,400000,50,2⟩:Zl),(⟨2,⟨30000,40000⟩,400000,80,3⟩:Zl)]
theorem KC (w:World):Calls Tryz.prog 7 #[] w (JD (Γ:=(Option Addr×Nat)) (cx w) (fun g=>.slice g.1 ((Xi).length) g.2) (fun g=>[.inr (Own g.1 g.2 34 6 ((Xi).map Zl.c))])):=by
 refine Zo (vs:=[]) (w:=w) Tryz.func7 rfl Tryz.ntmps7 rfl (Ze (Zc 1 [] [(0,.slice none 0 0)] {} (Zv (Zc 4 [] [(2,Zl.v (⟨1,⟨(-20000),0⟩,400000,50,2⟩:Zl)),(4,Zl.v (⟨2,⟨30000,40000⟩,400000,80,3⟩:Zl))] {} (ZH 5 (fun b1=>.slice (Pa b1) 2 2) (fun b1=>Bk b1 #[.i 1,.i (-20000),.i 0,.i 400000,.i 50,.i 2,.i 2,.i 30000,.i 40000,.i 400000,.i 80,.i 3] 34) (fun b1=>{}) (fun b1=>Zc 6 [] [(0,.slice (Pa b1) 2 2)] {} (Zb rfl (TC.ret ?_))))))))
 have e:Xi=([(⟨1,⟨(-20000),0⟩,400000,50,2⟩:Zl),(⟨2,⟨30000,40000⟩,400000,80,3⟩:Zl)]):=by unfold Xi;exact rfl
 refine Yp [Ow (Pa b1) 2 34 6 (([(⟨1,⟨(-20000),0⟩,400000,50,2⟩:Zl),(⟨2,⟨30000,40000⟩,400000,80,3⟩:Zl)]:List Zl).map Zl.c)] (fun _ hM=>by exact hM.litrow 0 (([(⟨1,⟨(-20000),0⟩,400000,50,2⟩:Zl),(⟨2,⟨30000,40000⟩,400000,80,3⟩:Zl)]:List Zl).map Zl.c) rfl Kr Kr Kr Kr) ?_
 rw[e]
 exact ZN (.inl rfl) ((Pa b1),2) [] (.slice (Pa b1) 2 2) {} rfl (fun _ hM=>hM.sub (sb 1))
def YD (f:Zw) (time:Int):P :=
 (⟨w64 (f.at_.X+(w64 (f.speed.X*time))),w64 (f.at_.Y+(w64 (f.speed.Y*time)))⟩:P)
theorem Ur (f:Zw) (time:Int) (w:World):Calls Tryz.prog 9 #[Zw.v f,.int .i64 time] w (Ret w (P.v (YD f time))):=by
 exact Zo (vs:=[Zw.v f,.i time]) (w:=w) Tryz.func9 rfl Tryz.ntmps9 rfl (Ze (ZH 2 (fun b1=>.p0 b1) (fun b1=>Bk b1 (Zw.c f) 38) (fun b1=>{}) (fun b1=>ZH 4 (fun b2=>.p0 b2) (fun b2=>Bk b2 (P.c P.zero) 32) (fun b2=>{}) (fun b2=>Zv (Zc 19 [1,1,1,1] [(23,P.v (⟨w64 (f.at_.X+(w64 (f.speed.X*time))),w64 (f.at_.Y+(w64 (f.speed.Y*time)))⟩:P))] {} (Ym 0 (Bk b2 (P.c (⟨w64 (f.at_.X+(w64 (f.speed.X*time))),w64 (f.at_.Y+(w64 (f.speed.Y*time)))⟩:P)) 32) (fun _=>{}) (Zb rfl (TC.ret (TE.ret [0] (P.v (⟨w64 (f.at_.X+(w64 (f.speed.X*time))),w64 (f.at_.Y+(w64 (f.speed.Y*time)))⟩:P)) {} (by unfold YD;refine eS (fun z=>(P.v z:Value)) ?_;exact rfl))))))))))
def YE (l:List Int):Nat→Nat→(List Zw)→(List Zw)
 | 0,_,out=>out
 | m+1,k,out=>let r1:=Yv (l[(4*k)]?.getD 0) 0 5000
  let r2:=Yv (l[(w64 (((4*k:Nat):Int)+1)).toNat]?.getD 0) (-20000) 20000
  let r3:=Yv (l[(w64 (((4*k:Nat):Int)+2)).toNat]?.getD 0) (-100) 100
  let r4:=Yv (l[(w64 (((4*k:Nat):Int)+3)).toNat]?.getD 0) (-200) 200
  YE l m (k+1) (out++([(⟨⟨w64 ((w64 ((-60000)+(w64 (60000*(w64 (((4*k:Nat):Int).tdiv 4))))))+r1),r2⟩,⟨r3,r4⟩,w64 (5000+(w64 (3000*(w64 (((4*k:Nat):Int).tdiv 4))))),w64 (100+((4*k:Nat):Int))⟩:Zw)]))
def Xl (l:List Int):List Zw :=
 Xq (YE l (min (l.length/4) 3) 0 ([]:List Zw)) (fun ql =>
  ql)
theorem G8 (A_l:Option Addr) (c_l:Nat) (l:List Int) (w:World) (h_l:Rd w 1 A_l (l.map ic)) (_hc_l:l.length≤c_l):Calls Tryz.prog 4 #[.slice A_l l.length c_l] w (JD (Γ:=(Option Addr×Nat)) (cx w) (fun g=>.slice g.1 ((Xl l).length) g.2) (fun g=>[.inr (Own g.1 g.2 38 6 ((Xl l).map Zw.c))])):=by
 have s_l:=h_l.short;rw[aF] at s_l
 refine Zo (vs:=[.slice A_l l.length c_l]) (w:=w) Tryz.func4 rfl Tryz.ntmps4 rfl (Ze (Zc 1 [] [(2,.slice none 0 0)] {} (Zv (Zc 1 [] [(3,.slice none 0 0)] {} (Zz (Ze (Zc 1 [] [(4,.i 0)] {} (Zb rfl (QS [Ow none 0 38 6 (([]:List Zw).map Zw.c)] (fun _ hM=>hM.emptyrow none 38 6) ?_)))))))))
 obtain⟨R2,hR⟩:∃ R,R=YE l (min (l.length/4) 3) 0 ([]:List Zw):=⟨_,rfl⟩
 refine TC.cut (S:=(List Zw)×(Option Addr)×Nat) (fun (ql,A_out_2,qk)=>[(3,.slice A_out_2 ql.length qk)]) (fun (ql,A_out_2,qk)=>[Ow A_out_2 qk 38 6 (ql.map Zw.c)]) (fun (ql,A_out_2,qk)=>R2=ql∧ql.length≤(min (l.length/4) 3)) ?_ ?_
 ·refine TC.block (XB (X:=Nat×(List Zw)×(Option Addr)×Nat) (fun (k,out,A_out,qg)=>[(0,.slice A_l l.length c_l),(3,.slice A_out out.length qg),(4,.i ((4*k:Nat):Int))]) (fun (k,out,A_out,qg)=>[Ow A_out qg 38 6 (out.map Zw.c)]) (fun (k,out,A_out,qg)=>(min (l.length/4) 3)-k) (fun (k,out,A_out,qg)=>k≤(min (l.length/4) 3)∧R2=YE l ((min (l.length/4) 3)-k) k out∧out.length≤k) ?_ (0,([]:List Zw),none,0) ⟨aN _,hR,sz⟩ Kr (sb 1))
  rintro⟨k,out,A_out,qg⟩ ⟨hk,hI,wo⟩
  refine TC.seq (Ze (Zc 6 [] [(10,.b (decide ((w64 (((4*k:Nat):Int)+3))<(l.length:Int))))] {} (XT 10 (decide ((w64 (((4*k:Nat):Int)+3))<(l.length:Int))) 9 [] [] (fun β=>[(13,.b (β&&(decide (((4*k:Nat):Int)<12))))]) Kr {} {} (Zb rfl (TC.cond ((decide ((w64 (((4*k:Nat):Int)+3))<(l.length:Int)))&&(decide (((4*k:Nat):Int)<12))) rfl Kr (fun h1=>?_) (fun h1=>?_))))))
  ·have hlt:k<(min (l.length/4) 3):=by have p0_:=(Ys (Jl h1));have p1_:=(Ys (JZ h1));first|omega|(simp only[Ya] at *;omega)
   have hd:(min (l.length/4) 3)-k=((min (l.length/4) 3)-(k+1))+1:=by omega
   have j4:=(Ys (Jl h1))
   have dj:=(Ys (JZ h1))
   refine Yg (TC.seq (TC.block ?_))
   obtain⟨r1,hr1⟩:∃ r,Yv (l[(4*k)]?.getD 0) 0 5000=r:=⟨_,rfl⟩
   obtain⟨r2,hr2⟩:∃ r,Yv (l[(w64 (((4*k:Nat):Int)+1)).toNat]?.getD 0) (-20000) 20000=r:=⟨_,rfl⟩
   obtain⟨r3,hr3⟩:∃ r,Yv (l[(w64 (((4*k:Nat):Int)+2)).toNat]?.getD 0) (-100) 100=r:=⟨_,rfl⟩
   obtain⟨r4,hr4⟩:∃ r,Yv (l[(w64 (((4*k:Nat):Int)+3)).toNat]?.getD 0) (-200) 200=r:=⟨_,rfl⟩
   refine Jt (G:=Nat×AN) (base:=[(0,.slice A_l l.length c_l),(3,.slice A_out out.length qg),(4,.i ((4*k:Nat):Int))]) (vals:=fun γ=>[.slice A_out out.length qg,.i ((4*k:Nat):Int),.i (w64 (((4*k:Nat):Int).tdiv 4)),.i (w64 (60000*(w64 (((4*k:Nat):Int).tdiv 4)))),.i (w64 ((-60000)+(w64 (60000*(w64 (((4*k:Nat):Int).tdiv 4)))))),.slice A_l l.length c_l,.i ((4*k:Nat):Int),.pointer (some (Ix A_l ((4*k)*1))),.i (l[(4*k)]?.getD 0),.i r1,.i (w64 ((w64 ((-60000)+(w64 (60000*(w64 (((4*k:Nat):Int).tdiv 4))))))+r1)),.slice A_l l.length c_l,.i ((4*k:Nat):Int),.i (w64 (((4*k:Nat):Int)+1)),.pointer (some ((A_l.getD Y4).add ((w64 (((4*k:Nat):Int)+1)).toNat*1))),.i (l[(w64 (((4*k:Nat):Int)+1)).toNat]?.getD 0),.i r2,P.v (⟨w64 ((w64 ((-60000)+(w64 (60000*(w64 (((4*k:Nat):Int).tdiv 4))))))+r1),r2⟩:P),.slice A_l l.length c_l,.i ((4*k:Nat):Int),.i (w64 (((4*k:Nat):Int)+2)),.pointer (some ((A_l.getD Y4).add ((w64 (((4*k:Nat):Int)+2)).toNat*1))),.i (l[(w64 (((4*k:Nat):Int)+2)).toNat]?.getD 0),.i r3,.slice A_l l.length c_l,.i ((4*k:Nat):Int),.i (w64 (((4*k:Nat):Int)+3)),.pointer (some ((A_l.getD Y4).add ((w64 (((4*k:Nat):Int)+3)).toNat*1))),.i (l[(w64 (((4*k:Nat):Int)+3)).toNat]?.getD 0),.i r4,P.v (⟨r3,r4⟩:P),.i ((4*k:Nat):Int),.i (w64 (((4*k:Nat):Int).tdiv 4)),.i (w64 (3000*(w64 (((4*k:Nat):Int).tdiv 4)))),.i (w64 (5000+(w64 (3000*(w64 (((4*k:Nat):Int).tdiv 4)))))),.i ((4*k:Nat):Int),.i (w64 (100+((4*k:Nat):Int))),Zw.v (⟨⟨w64 ((w64 ((-60000)+(w64 (60000*(w64 (((4*k:Nat):Int).tdiv 4))))))+r1),r2⟩,⟨r3,r4⟩,w64 (5000+(w64 (3000*(w64 (((4*k:Nat):Int).tdiv 4))))),w64 (100+((4*k:Nat):Int))⟩:Zw),.slice (Pa γ.1) 1 1,.slice (γ.2.1) ((out++([(⟨⟨w64 ((w64 ((-60000)+(w64 (60000*(w64 (((4*k:Nat):Int).tdiv 4))))))+r1),r2⟩,⟨r3,r4⟩,w64 (5000+(w64 (3000*(w64 (((4*k:Nat):Int).tdiv 4))))),w64 (100+((4*k:Nat):Int))⟩:Zw)])).length) (γ.2.2),.slice (γ.2.1) ((out++([(⟨⟨w64 ((w64 ((-60000)+(w64 (60000*(w64 (((4*k:Nat):Int).tdiv 4))))))+r1),r2⟩,⟨r3,r4⟩,w64 (5000+(w64 (3000*(w64 (((4*k:Nat):Int).tdiv 4))))),w64 (100+((4*k:Nat):Int))⟩:Zw)])).length) (γ.2.2)]) (writes:=[38,39]) (mem:=fun bs γ=>match bs with | [x38_,x39_]=>(bif x38_ then [Bk γ.1 (Zw.c (⟨⟨w64 ((w64 ((-60000)+(w64 (60000*(w64 (((4*k:Nat):Int).tdiv 4))))))+r1),r2⟩,⟨r3,r4⟩,w64 (5000+(w64 (3000*(w64 (((4*k:Nat):Int).tdiv 4))))),w64 (100+((4*k:Nat):Int))⟩:Zw)) 38] else [])++((bif x39_ then [Ow (γ.2.1) (γ.2.2) 38 6 ((out++([(⟨⟨w64 ((w64 ((-60000)+(w64 (60000*(w64 (((4*k:Nat):Int).tdiv 4))))))+r1),r2⟩,⟨r3,r4⟩,w64 (5000+(w64 (3000*(w64 (((4*k:Nat):Int).tdiv 4))))),w64 (100+((4*k:Nat):Int))⟩:Zw)])).map Zw.c)] else [Ow A_out qg 38 6 (out.map Zw.c)])++([]))|_=>[]) (0,(none,0)) (fun γ=>[(0,.slice A_l l.length c_l),(3,.slice (γ.2.1) ((out++([(⟨⟨w64 ((w64 ((-60000)+(w64 (60000*(w64 (((4*k:Nat):Int).tdiv 4))))))+r1),r2⟩,⟨r3,r4⟩,w64 (5000+(w64 (3000*(w64 (((4*k:Nat):Int).tdiv 4))))),w64 (100+((4*k:Nat):Int))⟩:Zw)])).length) (γ.2.2)),(4,.i ((4*k:Nat):Int))]) Kr Kr Kr Kr Kr (fun γ=>Kr) (fun _ hM=>hM) (fun γ=>Kr) ?_ ?_
   ·skip
    exact Steps.run (i:=0) 7 [0,0,0,0,0,0,0] [] Kr Kr (fun S (γ:Nat×AN) w hM=>by rw[mS2 rfl rfl] at hM;exact hM.sub (Zh (Zh (aA _)))) Kr (fun (γ:Nat×AN)=>{}) (Xy (i:=7) (fun (γ:Nat×AN)=>sV (Instr.indexAt 22 (.slice A_l l.length c_l) (.i ((4*k:Nat):Int)))) (some 23) (fun (γ:Nat×AN)=>.pointer (some (Ix A_l ((4*k)*1)))) (fun _=>[]) Kr (fun S (γ:Nat×AN) w _ hM=>by rw[mS2 rfl rfl] at hM;exact hM.sub (Zh (Zh (aA _)))) (fun (γ:Nat×AN) w hM=>Zy (h_l.sat hM) (by simp) Kr sd sd) (fun (γ:Nat×AN)=>Kr) (fun (γ:Nat×AN)=>Kr) (Xy (i:=8) (fun (γ:Nat×AN)=>sV (Instr.loadAt 3 (.pointer (some (Ix A_l ((4*k)*1)))))) (some 24) (fun (γ:Nat×AN)=>.i (l[(4*k)]?.getD 0)) (fun _=>[]) Kr (fun S (γ:Nat×AN) w _ hM=>by rw[mS2 rfl rfl] at hM;exact hM.sub (Zh (Zh (aA _)))) (fun (γ:Nat×AN) w hM=>Z3 (off:=0) (i:=(4*k)) (.i (l[(4*k)]?.getD 0)) (h_l.sat hM) (ZR (getD_at _ _ 0 sd)) Kr Kr) (fun (γ:Nat×AN)=>Kr) (fun (γ:Nat×AN)=>Kr) (Steps.call (i:=9) 16 (fun (γ:Nat×AN)=>#[.i (l[(4*k)]?.getD 0),.i 0,.i 5000]) (some 25) (fun (γ:Nat×AN)=>.i r1) (fun (γ:Nat×AN)=>[]) Kr (fun S (γ:Nat×AN) w _ hM=>by rw[mS2 rfl rfl] at hM;exact hM.sub (Zh (Zh (aA _)))) (fun (γ:Nat×AN) w _=>by have h:=JC (l[(4*k)]?.getD 0) 0 5000 w (by first|omega|first|decide|omega|(simp only[Ya];omega)|(simp <;> omega));rw[hr1] at h;exact h) (fun (γ:Nat×AN)=>Kr) (fun (γ:Nat×AN)=>Kr) (Steps.run (i:=10) 14 [0,0,0,0] [] Kr Kr (fun S (γ:Nat×AN) w hM=>by rw[mS2 rfl rfl] at hM;exact hM.sub (Zh (Zh (aA _)))) Kr (fun (γ:Nat×AN)=>{}) (Xy (i:=14) (fun (γ:Nat×AN)=>sV (Instr.indexAt 22 (.slice A_l l.length c_l) (.i (w64 (((4*k:Nat):Int)+1))))) (some 30) (fun (γ:Nat×AN)=>.pointer (some ((A_l.getD Y4).add ((w64 (((4*k:Nat):Int)+1)).toNat*1)))) (fun _=>[]) Kr (fun S (γ:Nat×AN) w _ hM=>by rw[mS2 rfl rfl] at hM;exact hM.sub (Zh (Zh (aA _)))) (fun (γ:Nat×AN) w hM=>Zy (h_l.sat hM) (by simp) Kr sd sd) (fun (γ:Nat×AN)=>Kr) (fun (γ:Nat×AN)=>Kr) (Xy (i:=15) (fun (γ:Nat×AN)=>sV (Instr.loadAt 3 (.pointer (some ((A_l.getD Y4).add ((w64 (((4*k:Nat):Int)+1)).toNat*1)))))) (some 31) (fun (γ:Nat×AN)=>.i (l[(w64 (((4*k:Nat):Int)+1)).toNat]?.getD 0)) (fun _=>[]) Kr (fun S (γ:Nat×AN) w _ hM=>by rw[mS2 rfl rfl] at hM;exact hM.sub (Zh (Zh (aA _)))) (fun (γ:Nat×AN) w hM=>Z3 (off:=0) (i:=(w64 (((4*k:Nat):Int)+1)).toNat) (.i (l[(w64 (((4*k:Nat):Int)+1)).toNat]?.getD 0)) (h_l.sat hM) (ZR (getD_at _ _ 0 sd)) Kr Kr) (fun (γ:Nat×AN)=>Kr) (fun (γ:Nat×AN)=>Kr) (Steps.call (i:=16) 16 (fun (γ:Nat×AN)=>#[.i (l[(w64 (((4*k:Nat):Int)+1)).toNat]?.getD 0),.i (-20000),.i 20000]) (some 32) (fun (γ:Nat×AN)=>.i r2) (fun (γ:Nat×AN)=>[]) Kr (fun S (γ:Nat×AN) w _ hM=>by rw[mS2 rfl rfl] at hM;exact hM.sub (Zh (Zh (aA _)))) (fun (γ:Nat×AN) w _=>by have h:=JC (l[(w64 (((4*k:Nat):Int)+1)).toNat]?.getD 0) (-20000) 20000 w (by first|omega|first|decide|omega|(simp only[Ya];omega)|(simp <;> omega));rw[hr2] at h;exact h) (fun (γ:Nat×AN)=>Kr) (fun (γ:Nat×AN)=>Kr) (Steps.run (i:=17) 21 [0,0,0,0] [] Kr Kr (fun S (γ:Nat×AN) w hM=>by rw[mS2 rfl rfl] at hM;exact hM.sub (Zh (Zh (aA _)))) Kr (fun (γ:Nat×AN)=>{}) (Xy (i:=21) (fun (γ:Nat×AN)=>sV (Instr.indexAt 22 (.slice A_l l.length c_l) (.i (w64 (((4*k:Nat):Int)+2))))) (some 37) (fun (γ:Nat×AN)=>.pointer (some ((A_l.getD Y4).add ((w64 (((4*k:Nat):Int)+2)).toNat*1)))) (fun _=>[]) Kr (fun S (γ:Nat×AN) w _ hM=>by rw[mS2 rfl rfl] at hM;exact hM.sub (Zh (Zh (aA _)))) (fun (γ:Nat×AN) w hM=>Zy (h_l.sat hM) (by simp) Kr sd sd) (fun (γ:Nat×AN)=>Kr) (fun (γ:Nat×AN)=>Kr) (Xy (i:=22) (fun (γ:Nat×AN)=>sV (Instr.loadAt 3 (.pointer (some ((A_l.getD Y4).add ((w64 (((4*k:Nat):Int)+2)).toNat*1)))))) (some 38) (fun (γ:Nat×AN)=>.i (l[(w64 (((4*k:Nat):Int)+2)).toNat]?.getD 0)) (fun _=>[]) Kr (fun S (γ:Nat×AN) w _ hM=>by rw[mS2 rfl rfl] at hM;exact hM.sub (Zh (Zh (aA _)))) (fun (γ:Nat×AN) w hM=>Z3 (off:=0) (i:=(w64 (((4*k:Nat):Int)+2)).toNat) (.i (l[(w64 (((4*k:Nat):Int)+2)).toNat]?.getD 0)) (h_l.sat hM) (ZR (getD_at _ _ 0 sd)) Kr Kr) (fun (γ:Nat×AN)=>Kr) (fun (γ:Nat×AN)=>Kr) (Steps.call (i:=23) 16 (fun (γ:Nat×AN)=>#[.i (l[(w64 (((4*k:Nat):Int)+2)).toNat]?.getD 0),.i (-100),.i 100]) (some 39) (fun (γ:Nat×AN)=>.i r3) (fun (γ:Nat×AN)=>[]) Kr (fun S (γ:Nat×AN) w _ hM=>by rw[mS2 rfl rfl] at hM;exact hM.sub (Zh (Zh (aA _)))) (fun (γ:Nat×AN) w _=>by have h:=JC (l[(w64 (((4*k:Nat):Int)+2)).toNat]?.getD 0) (-100) 100 w (by first|omega|first|decide|omega|(simp only[Ya];omega)|(simp <;> omega));rw[hr3] at h;exact h) (fun (γ:Nat×AN)=>Kr) (fun (γ:Nat×AN)=>Kr) (Steps.run (i:=24) 27 [0,0,0] [] Kr Kr (fun S (γ:Nat×AN) w hM=>by rw[mS2 rfl rfl] at hM;exact hM.sub (Zh (Zh (aA _)))) Kr (fun (γ:Nat×AN)=>{}) (Xy (i:=27) (fun (γ:Nat×AN)=>sV (Instr.indexAt 22 (.slice A_l l.length c_l) (.i (w64 (((4*k:Nat):Int)+3))))) (some 43) (fun (γ:Nat×AN)=>.pointer (some ((A_l.getD Y4).add ((w64 (((4*k:Nat):Int)+3)).toNat*1)))) (fun _=>[]) Kr (fun S (γ:Nat×AN) w _ hM=>by rw[mS2 rfl rfl] at hM;exact hM.sub (Zh (Zh (aA _)))) (fun (γ:Nat×AN) w hM=>Zy (h_l.sat hM) (by simp) Kr sd sd) (fun (γ:Nat×AN)=>Kr) (fun (γ:Nat×AN)=>Kr) (Xy (i:=28) (fun (γ:Nat×AN)=>sV (Instr.loadAt 3 (.pointer (some ((A_l.getD Y4).add ((w64 (((4*k:Nat):Int)+3)).toNat*1)))))) (some 44) (fun (γ:Nat×AN)=>.i (l[(w64 (((4*k:Nat):Int)+3)).toNat]?.getD 0)) (fun _=>[]) Kr (fun S (γ:Nat×AN) w _ hM=>by rw[mS2 rfl rfl] at hM;exact hM.sub (Zh (Zh (aA _)))) (fun (γ:Nat×AN) w hM=>Z3 (off:=0) (i:=(w64 (((4*k:Nat):Int)+3)).toNat) (.i (l[(w64 (((4*k:Nat):Int)+3)).toNat]?.getD 0)) (h_l.sat hM) (ZR (getD_at _ _ 0 sd)) Kr Kr) (fun (γ:Nat×AN)=>Kr) (fun (γ:Nat×AN)=>Kr) (Steps.call (i:=29) 16 (fun (γ:Nat×AN)=>#[.i (l[(w64 (((4*k:Nat):Int)+3)).toNat]?.getD 0),.i (-200),.i 200]) (some 45) (fun (γ:Nat×AN)=>.i r4) (fun (γ:Nat×AN)=>[]) Kr (fun S (γ:Nat×AN) w _ hM=>by rw[mS2 rfl rfl] at hM;exact hM.sub (Zh (Zh (aA _)))) (fun (γ:Nat×AN) w _=>by have h:=JC (l[(w64 (((4*k:Nat):Int)+3)).toNat]?.getD 0) (-200) 200 w (by first|omega|first|decide|omega|(simp only[Ya];omega)|(simp <;> omega));rw[hr4] at h;exact h) (fun (γ:Nat×AN)=>Kr) (fun (γ:Nat×AN)=>Kr) (Steps.run (i:=30) 38 [0,0,0,0,0,0,0,0] [] Kr Kr (fun S (γ:Nat×AN) w hM=>by rw[mS2 rfl rfl] at hM;exact hM.sub (Zh (Zh (aA _)))) Kr (fun (γ:Nat×AN)=>{}) (Steps.op (i:=38) (Γ:=Nat) (fun g (γ:Nat×AN)=>(g,γ.2)) (fun _=>[]) (fun b (γ:Nat×AN)=>[Bk b (Zw.c (⟨⟨w64 ((w64 ((-60000)+(w64 (60000*(w64 (((4*k:Nat):Int).tdiv 4))))))+r1),r2⟩,⟨r3,r4⟩,w64 (5000+(w64 (3000*(w64 (((4*k:Nat):Int).tdiv 4))))),w64 (100+((4*k:Nat):Int))⟩:Zw)) 38]) (fun S (γ:Nat×AN)=>(bif S 39 then [Ow (γ.2.1) (γ.2.2) 38 6 ((out++([(⟨⟨w64 ((w64 ((-60000)+(w64 (60000*(w64 (((4*k:Nat):Int).tdiv 4))))))+r1),r2⟩,⟨r3,r4⟩,w64 (5000+(w64 (3000*(w64 (((4*k:Nat):Int).tdiv 4))))),w64 (100+((4*k:Nat):Int))⟩:Zw)])).map Zw.c)] else [Ow A_out qg 38 6 (out.map Zw.c)])++([])) [38,39,40] (fun (γ:Nat×AN)=>sV (Instr.buildSlice 23 1 #[(0,Zw.v (⟨⟨w64 ((w64 ((-60000)+(w64 (60000*(w64 (((4*k:Nat):Int).tdiv 4))))))+r1),r2⟩,⟨r3,r4⟩,w64 (5000+(w64 (3000*(w64 (((4*k:Nat):Int).tdiv 4))))),w64 (100+((4*k:Nat):Int))⟩:Zw))])) (some 54) (fun b (γ:Nat×AN)=>.slice (Pa b) 1 1) (fun S (γ:Nat×AN) hj hd hl=>by rw[mS2 hj rfl];exact aC _) (fun S (γ:Nat×AN) g _=>(aC _).symm) (fun (γ:Nat×AN) M' w hM=>Jd (v:=fun b=>.slice (Pa b) 1 1) (fun b M=>Kr) M' w hM) (fun (γ:Nat×AN)=>Kr) (fun (γ:Nat×AN) g=>Kr) Kr (fun (γ:Nat×AN) g=>Kr) (Vz (i:=39) (Γ:=AN) (fun g (γ:Nat×AN)=>(γ.1,g)) (fun (γ:Nat×AN)=>[Ow A_out qg 38 6 (out.map Zw.c),Bk γ.1 (Zw.c (⟨⟨w64 ((w64 ((-60000)+(w64 (60000*(w64 (((4*k:Nat):Int).tdiv 4))))))+r1),r2⟩,⟨r3,r4⟩,w64 (5000+(w64 (3000*(w64 (((4*k:Nat):Int).tdiv 4))))),w64 (100+((4*k:Nat):Int))⟩:Zw)) 38]) (fun g (γ:Nat×AN)=>[Ow (g.1) (g.2) 38 6 ((out++([(⟨⟨w64 ((w64 ((-60000)+(w64 (60000*(w64 (((4*k:Nat):Int).tdiv 4))))))+r1),r2⟩,⟨r3,r4⟩,w64 (5000+(w64 (3000*(w64 (((4*k:Nat):Int).tdiv 4))))),w64 (100+((4*k:Nat):Int))⟩:Zw)])).map Zw.c),Bk γ.1 (Zw.c (⟨⟨w64 ((w64 ((-60000)+(w64 (60000*(w64 (((4*k:Nat):Int).tdiv 4))))))+r1),r2⟩,⟨r3,r4⟩,w64 (5000+(w64 (3000*(w64 (((4*k:Nat):Int).tdiv 4))))),w64 (100+((4*k:Nat):Int))⟩:Zw)) 38]) (fun S (γ:Nat×AN)=>[]) [39,40] (fun (γ:Nat×AN)=>sV (Builtin.append_ #[23,23] 23 #[.slice A_out out.length qg,.slice (Pa γ.1) 1 1])) (some 55) (fun g (γ:Nat×AN)=>.slice (g.1) ((out++([(⟨⟨w64 ((w64 ((-60000)+(w64 (60000*(w64 (((4*k:Nat):Int).tdiv 4))))))+r1),r2⟩,⟨r3,r4⟩,w64 (5000+(w64 (3000*(w64 (((4*k:Nat):Int).tdiv 4))))),w64 (100+((4*k:Nat):Int))⟩:Zw)])).length) (g.2)) (fun S (γ:Nat×AN) hj hd hl=>by change List.Perm (((bif S 38 then [Bk γ.1 (Zw.c (⟨⟨w64 ((w64 ((-60000)+(w64 (60000*(w64 (((4*k:Nat):Int).tdiv 4))))))+r1),r2⟩,⟨r3,r4⟩,w64 (5000+(w64 (3000*(w64 (((4*k:Nat):Int).tdiv 4))))),w64 (100+((4*k:Nat):Int))⟩:Zw)) 38] else [])++((bif S 39 then [Ow (γ.2.1) (γ.2.2) 38 6 ((out++([(⟨⟨w64 ((w64 ((-60000)+(w64 (60000*(w64 (((4*k:Nat):Int).tdiv 4))))))+r1),r2⟩,⟨r3,r4⟩,w64 (5000+(w64 (3000*(w64 (((4*k:Nat):Int).tdiv 4))))),w64 (100+((4*k:Nat):Int))⟩:Zw)])).map Zw.c)] else [Ow A_out qg 38 6 (out.map Zw.c)])++([]))):Mem) _;rw[hj,hd 38 Kr];exact((aB _ (aC _)).trans (ZP _ _ _)).trans (aB _ ((aC _).trans (aB _ (aC _))))) (fun S (γ:Nat×AN) g _ hd hl=>by change List.Perm ([Ow (g.1) (g.2) 38 6 ((out++([(⟨⟨w64 ((w64 ((-60000)+(w64 (60000*(w64 (((4*k:Nat):Int).tdiv 4))))))+r1),r2⟩,⟨r3,r4⟩,w64 (5000+(w64 (3000*(w64 (((4*k:Nat):Int).tdiv 4))))),w64 (100+((4*k:Nat):Int))⟩:Zw)])).map Zw.c)]++([Bk γ.1 (Zw.c (⟨⟨w64 ((w64 ((-60000)+(w64 (60000*(w64 (((4*k:Nat):Int).tdiv 4))))))+r1),r2⟩,⟨r3,r4⟩,w64 (5000+(w64 (3000*(w64 (((4*k:Nat):Int).tdiv 4))))),w64 (100+((4*k:Nat):Int))⟩:Zw)) 38]++([]))) (((bif S 38 then [Bk γ.1 (Zw.c (⟨⟨w64 ((w64 ((-60000)+(w64 (60000*(w64 (((4*k:Nat):Int).tdiv 4))))))+r1),r2⟩,⟨r3,r4⟩,w64 (5000+(w64 (3000*(w64 (((4*k:Nat):Int).tdiv 4))))),w64 (100+((4*k:Nat):Int))⟩:Zw)) 38] else [])++((bif true then [Ow (g.1) (g.2) 38 6 ((out++([(⟨⟨w64 ((w64 ((-60000)+(w64 (60000*(w64 (((4*k:Nat):Int).tdiv 4))))))+r1),r2⟩,⟨r3,r4⟩,w64 (5000+(w64 (3000*(w64 (((4*k:Nat):Int).tdiv 4))))),w64 (100+((4*k:Nat):Int))⟩:Zw)])).map Zw.c)] else [Ow A_out qg 38 6 (out.map Zw.c)])++([]))):Mem);rw[hd 38 Kr];exact(((aB _ (aC _)).trans (ZP _ _ _)).trans (aB _ ((aC _).trans (aB _ (aC _))))).symm) (fun (γ:Nat×AN) M' w hM=>Jc (bytes:=48) 23 0 ([(⟨⟨w64 ((w64 ((-60000)+(w64 (60000*(w64 (((4*k:Nat):Int).tdiv 4))))))+r1),r2⟩,⟨r3,r4⟩,w64 (5000+(w64 (3000*(w64 (((4*k:Nat):Int).tdiv 4))))),w64 (100+((4*k:Nat):Int))⟩:Zw)]) Kr rfl rfl Zw.one rfl (fun w hM=>(Rd.lit hM 1 _ rfl Kr Kr Kr)) rfl sa w hM) (fun (γ:Nat×AN)=>Kr) (fun (γ:Nat×AN) g=>Kr) Kr (fun (γ:Nat×AN) g=>Kr) (Steps.run (i:=40) 41 [0] [] Kr Kr (fun S (γ:Nat×AN) w hM=>by rw[mS2 rfl rfl] at hM;exact hM.sub (Zh (Zh (aA _)))) Kr (fun (γ:Nat×AN)=>{}) (XH Kr))))))))))))))))))))
   ·rintro⟨b1,⟨A,c⟩⟩
    exact Yp [Bk b1 (Zw.c (⟨⟨w64 ((w64 ((-60000)+(w64 (60000*(w64 (((4*k:Nat):Int).tdiv 4))))))+r1),r2⟩,⟨r3,r4⟩,w64 (5000+(w64 (3000*(w64 (((4*k:Nat):Int).tdiv 4))))),w64 (100+((4*k:Nat):Int))⟩:Zw)) 38,Ow A c 38 6 ((out++([(⟨⟨w64 ((w64 ((-60000)+(w64 (60000*(w64 (((4*k:Nat):Int).tdiv 4))))))+r1),r2⟩,⟨r3,r4⟩,w64 (5000+(w64 (3000*(w64 (((4*k:Nat):Int).tdiv 4))))),w64 (100+((4*k:Nat):Int))⟩:Zw)])).map Zw.c)] (fun _ hM=>hM) (Yr (Z4 (TC.region (Zc 3 [] [(4,.i (w64 (((4*k:Nat):Int)+4)))] {} (Z2 rfl (TE.rw 4 (.i (w64 (((4*k:Nat):Int)+4))) (.i ((4*(k+1):Nat):Int)) Kr (int_eq (by first|omega|(rw[Zu (by omega)];omega)|(simp only[Ya] at *;omega))) (Z7 (x:=(k,out,A_out,qg)) (k+1,(out++([(⟨⟨w64 ((w64 ((-60000)+(w64 (60000*(w64 (((4*k:Nat):Int).tdiv 4))))))+r1),r2⟩,⟨r3,r4⟩,w64 (5000+(w64 (3000*(w64 (((4*k:Nat):Int).tdiv 4))))),w64 (100+((4*k:Nat):Int))⟩:Zw)])),A,c) ⟨by omega,hI.trans (by subst hr1 hr2 hr3 hr4;rw[hd];exact rfl),sl⟩ (mN hlt) Kr (sb 2))))))))
  ·have hd:(min (l.length/4) 3)-k=0:=by have p0_:=((Qq h1).imp (fun h=>(Zt h)) (fun h=>(Zt h)));first|omega|(simp only[Ya] at *;omega)
   refine TC.exit (Yc (Yc (Z1 ?_)))
   exact TE.cut (out,A_out,qg) (⟨hI.trans (by rw[hd];exact rfl),sl⟩) Kr (sb 1)
 ·rintro⟨ql,A_out_2,qk⟩ ⟨hJ,vu⟩
  refine YZ (Zc 2 [] [(2,.slice A_out_2 ql.length qk)] {} (Zb rfl (TC.ret ?_)))
  have e:Xl l=ql:=by unfold Xl;exact Y5 (hR.symm.trans hJ) (rfl)
  rw[e]
  exact ZN (.inl rfl) (A_out_2,qk) [] (.slice A_out_2 ql.length qk) {} rfl (fun _ hM=>hM.sub (sb 1))
def Q0:Bool :=
 let r1:=XV
 let r2:=YX r1
 cond ((r2.2 != 0)||false) (
  false) (
  let r3:=Z5 r2.1 ([(⟨0,⟨0,0⟩,0,5,10⟩:Zm)]:List Zm) 0
  let r4:=Z5 r3.2.2 ([(⟨4,⟨0,0⟩,0,5,10⟩:Zm)]:List Zm) 4
  cond ((r4.2.1==0)&&((r4.1.length:Int)==1)) (
   ((r4.1[0]?.getD Track.zero).State)==1) (
   false))
theorem EA {r1:ZB} {r2:Zi×Int} (h1:XV=r1) (h2:YX r1=r2):r2.1.all=[]:=by
 subst h1 h2
 rfl
theorem WE (w:World):Calls Tryz.prog 5 #[] w (Ret w (.bool (Q0))):=by
 refine Zo (vs:=[]) (w:=w) Tryz.func5 rfl Tryz.ntmps5 rfl (Ze (Zc 1 [] [(0,.b false)] {} (Zv (TL.c 5 (XV) (fun r1=>ZB.v r1) (fun w _=>WC w) {} (fun r1 hr1=>FS (Γ:=Nat×AN) 0 6 (YX r1) (fun r2 g=>.tuple #[.p0 g.1,.i r2.2]) (fun r2 g=>[Bk g.1 (Zi.k r2.1 g.2.1 g.2.2) 104,Ow g.2.1 g.2.2 111 23 (r2.1.all.map followed.c)]) [] Kr (fun w hM=>DY r1 w hM (by subst hr1;rfl)) {} (fun r2 hr2=>?_))))))
 have nl_:r2.1.all.length≤32:=by rw[EA hr1 hr2];decide
 rintro⟨yd,A,c⟩
 refine Y2 (fun w hM=>hM.short_at 1 rfl) (fun aa=>Zc 7 [] [(1,.p0 yd),(2,.i r2.2)] {} (Zz (Ze (Zc 3 [] [(11,.b (r2.2 != 0))] {} (XT 11 (r2.2 != 0) 6 [] [] (fun β=>[(14,.b (β||false))]) Kr {} {} (Zb rfl (TC.cond ((r2.2 != 0)||false) rfl Kr (fun h1=>?_) (fun h1=>?_))))))))
 ·exact Ze (Zc 1 [] [(0,.b false)] {} (Zb rfl (TC.ret (Zq (TE.ret [] (.b false) {} (by unfold Q0;refine eS (fun z=>(.b z:Value)) ?_;subst hr1 hr2;exact Zk h1 (rfl)))))))
 ·have j4:=(Jb (Zx h1))
  refine ZI (Zc 2 [] [(15,.p0 yd),(16,Zm.v (⟨0,⟨0,0⟩,0,5,10⟩:Zm))] {} (ZH 17 (fun b1=>.slice (Pa b1) 1 1) (fun b1=>Bk b1 (Zm.c (⟨0,⟨0,0⟩,0,5,10⟩:Zm)) 46) (fun b1=>{}) (fun b1=>YS [Ow (Pa b1) 1 46 6 (([(⟨0,⟨0,0⟩,0,5,10⟩:Zm)]:List Zm).map Zm.c),Bk yd (Zi.k r2.1 A c) 104,Ow A c 111 23 (r2.1.all.map followed.c)] (fun _ hM=>by exact hM.litrow 0 (([(⟨0,⟨0,0⟩,0,5,10⟩:Zm)]:List Zm).map Zm.c) rfl Kr Kr Kr Kr) (YS [Bk yd (Zi.k r2.1 A c) 104,Ow A c 111 23 (r2.1.all.map followed.c),Ow (Pa b1) 1 46 6 (([(⟨0,⟨0,0⟩,0,5,10⟩:Zm)]:List Zm).map Zm.c)] (fun _ hM=>hM.perm (px [1,2,0])) (FS (Γ:=AN×AN) 3 18 (Z5 r2.1 ([(⟨0,⟨0,0⟩,0,5,10⟩:Zm)]:List Zm) 0) (fun r3 g=>.tuple #[.slice g.1.1 r3.1.length g.1.2,.i r3.2.1]) (fun r3 g=>[Bk yd (Zi.k r3.2.2 g.2.1 g.2.2) 104,Ow g.2.1 g.2.2 111 23 (r3.2.2.all.map followed.c),Ow (Pa b1) 1 46 6 (([(⟨0,⟨0,0⟩,0,5,10⟩:Zm)]:List Zm).map Zm.c),Ow g.1.1 g.1.2 70 13 (r3.1.map Track.c)]) [Bk yd (Zi.k r2.1 A c) 104,Ow A c 111 23 (r2.1.all.map followed.c),Ow (Pa b1) 1 46 6 (([(⟨0,⟨0,0⟩,0,5,10⟩:Zm)]:List Zm).map Zm.c)] Kr (fun w hM=>Vj yd r2.1 A c (Pa b1) 1 ([(⟨0,⟨0,0⟩,0,5,10⟩:Zm)]:List Zm) 0 w hM sg) {} (fun r3 hr3=>?_))))))
  have oy:=Ol hr3 nl_
  rintro⟨⟨A_2,c_2⟩,A_3,c_3⟩
  refine Y2 (fun w hM=>hM.short_at 1 rfl) (fun ab=>Y2 (fun w hM=>hM.short_at 3 rfl) (fun af=>Zv (Zc 2 [] [(20,.p0 yd),(21,Zm.v (⟨4,⟨0,0⟩,0,5,10⟩:Zm))] {} (ZH 22 (fun b2=>.slice (Pa b2) 1 1) (fun b2=>Bk b2 (Zm.c (⟨4,⟨0,0⟩,0,5,10⟩:Zm)) 46) (fun b2=>{}) (fun b2=>YS [Ow (Pa b2) 1 46 6 (([(⟨4,⟨0,0⟩,0,5,10⟩:Zm)]:List Zm).map Zm.c),Bk yd (Zi.k r3.2.2 A_3 c_3) 104,Ow A_3 c_3 111 23 (r3.2.2.all.map followed.c),Ow (Pa b1) 1 46 6 (([(⟨0,⟨0,0⟩,0,5,10⟩:Zm)]:List Zm).map Zm.c),Ow A_2 c_2 70 13 (r3.1.map Track.c)] (fun _ hM=>by exact hM.litrow 0 (([(⟨4,⟨0,0⟩,0,5,10⟩:Zm)]:List Zm).map Zm.c) rfl Kr Kr Kr Kr) (YS [Bk yd (Zi.k r3.2.2 A_3 c_3) 104,Ow A_3 c_3 111 23 (r3.2.2.all.map followed.c),Ow (Pa b2) 1 46 6 (([(⟨4,⟨0,0⟩,0,5,10⟩:Zm)]:List Zm).map Zm.c),Ow (Pa b1) 1 46 6 (([(⟨0,⟨0,0⟩,0,5,10⟩:Zm)]:List Zm).map Zm.c),Ow A_2 c_2 70 13 (r3.1.map Track.c)] (fun _ hM=>hM.perm (px [1,2,0,3,4])) (FS (Γ:=AN×AN) 3 23 (Z5 r3.2.2 ([(⟨4,⟨0,0⟩,0,5,10⟩:Zm)]:List Zm) 4) (fun r4 g=>.tuple #[.slice g.1.1 r4.1.length g.1.2,.i r4.2.1]) (fun r4 g=>[Bk yd (Zi.k r4.2.2 g.2.1 g.2.2) 104,Ow g.2.1 g.2.2 111 23 (r4.2.2.all.map followed.c),Ow (Pa b2) 1 46 6 (([(⟨4,⟨0,0⟩,0,5,10⟩:Zm)]:List Zm).map Zm.c),Ow g.1.1 g.1.2 70 13 (r4.1.map Track.c)]) [Bk yd (Zi.k r3.2.2 A_3 c_3) 104,Ow A_3 c_3 111 23 (r3.2.2.all.map followed.c),Ow (Pa b2) 1 46 6 (([(⟨4,⟨0,0⟩,0,5,10⟩:Zm)]:List Zm).map Zm.c)] Kr (fun w hM=>Vj yd r3.2.2 A_3 c_3 (Pa b2) 1 ([(⟨4,⟨0,0⟩,0,5,10⟩:Zm)]:List Zm) 4 w hM sg) {} (fun r4 hr4=>?_))))))))
  rintro⟨⟨A_4,c_4⟩,A_5,c_5⟩
  refine Y2 (fun w hM=>hM.short_at 1 rfl) (fun ag=>Y2 (fun w hM=>hM.short_at 3 rfl) (fun ah=>Zc 9 [] [(2,.i r4.2.1),(3,.slice A_4 r4.1.length c_4)] {} (Zv (Zc 3 [] [(28,.b (r4.2.1==0))] {} (XT 28 (r4.2.1==0) 7 [] [] (fun β=>[(32,.b (β&&((r4.1.length:Int)==1)))]) Kr {} {} (Zc 8 [] [(33,.b ((r4.2.1==0)&&((r4.1.length:Int)==1)))] {} (Yo 33 ((r4.2.1==0)&&((r4.1.length:Int)==1)) Kr (fun h2=>?_) (fun h2=>?_))))))))
  ·have vr:=(Xf (Jl h2))
   have ng:=(Xf (JZ h2))
   exact Zc 9 [] [(34,.slice A_4 r4.1.length c_4)] {} (TL.v (sV (Instr.indexAt 66 (.slice A_4 r4.1.length c_4) (.i 0))) 35 (.pointer (some (Ix A_4 (0*13)))) (fun w hM=>Zy (hM.rd_at 3 rfl) (by simp) Kr sd sd) {} (Zc 11 [] [(36,.pointer (some ((Ix A_4 (0*13)).add 1)))] {} (TL.v (sV (Instr.loadAt 3 (.pointer (some ((Ix A_4 (0*13)).add 1))))) 37 (.i ((r4.1[0]?.getD Track.zero).State)) (fun w hM=>Z3 (off:=1) (i:=0) (.i ((r4.1[0]?.getD Track.zero).State)) (hM.rd_at 3 rfl) (ZR (getD_at _ _ Track.zero sd)) Kr Kr) {} (Zc 15 [] [(0,.b (((r4.1[0]?.getD Track.zero).State)==1))] {} (Zb rfl (TC.ret (TE.ret [] (.b (((r4.1[0]?.getD Track.zero).State)==1)) {} (by unfold Q0;refine eS (fun z=>(.b z:Value)) ?_;subst hr1 hr2 hr3 hr4;exact Zd h1 (Zk h2 (rfl))))))))))
  ·exact Zc 15 [] [(0,.b false)] {} (Zb rfl (TC.ret (TE.ret [] (.b false) {} (by unfold Q0;refine eS (fun z=>(.b z:Value)) ?_;subst hr1 hr2 hr3 hr4;exact Zd h1 (Zd h2 (rfl))))))
end Go.Sky
end
section
namespace Go.Sky
open Go Go.Eng
def be (n:Int):Nat→List Int
 | 0=>[]
 | m+1=>wu8 (n.fdiv (2 ^ (min (8*m) 64)))::be n m
theorem Y8 (n:Int):∀ m,(be n m).length=m
 | 0=>rfl
 | m+1=>by rw[be,aG,Y8 n m]
theorem EB {b c:List Int} {n i:Int} {l:List Int} (h:b++be n (i+1).toNat=c++l) (hi:0≤i) :
  (b ++ [wu8 (n.fdiv (2 ^ (min (8*i).toNat 64)))])++be n (i-1+1).toNat=c++l:=by
 rw[show (i+1).toNat=i.toNat+1 by omega,be] at h
 rw[show (i-1+1).toNat=i.toNat by omega,show (8*i).toNat=8*i.toNat by omega,aT,← h]
 rfl
theorem II {b c:List Int} {n i:Int} {l:List Int} (h:b++be n (i+1).toNat=c++l) (hi:i<0):b=c++l:=by
 rw[show (i+1).toNat=0 by omega,be,bS] at h;exact h
theorem WF {b c:List Int} {n i:Int} {m:Nat} (h:b++be n (i+1).toNat=c++be n m):b.length+(i+1).toNat=c.length+m:=by
 have:=congrArg List.length h
 rwa [aI,aI,Y8,Y8] at this
theorem ext_size {s:ByteArray} {N:Nat} (a b:Nat) (h:s.size≤N):(s.extract a b).size≤N:=by rw[ByteArray.size_extract];omega
theorem Zj {x r:List Int} {n:Int} {k:Nat} (h:x++be n k=r):r.length=x.length+k:=by
 rw[← h,aI,Y8]
end Go.Sky
end
section
namespace Go.Eng
open Go.RowKit (Below)
theorem TY {P:Program} {w0:Ctx} {M:Mem} {t e b n c:Nat} {C:Array Value} (j:Nat) (ht:P.underlying t=some (.slice e)) (he:P.underlying e=some (.int .u8)) (hj:M[j]?=some (.inl (b,.cells C e (0,0)))) (w:World) (hM:Sat w0 M w) :
  ∃ (_:Unit) (w':World),(sV (convert t t (.slice (some ⟨b,0,none⟩) n c))).run P w=.ok (.value (.slice (some ⟨b,0,none⟩) n c)) w'∧Sat w0 (M.set j (.inl (b,.cells C e (C.size,C.size+1)))) w':=by
 have hb:=hM.block (aH hj)
 have hsh:w.shape? b=some (e,C.size):=by unfold World.shape?;rw[hb]
 refine⟨(),w.freeze ⟨b,C.size,none⟩ 1,Uw ?_,hM.step hj ⟨rfl,rfl,rfl,by simp[World.freeze],fun k _ hk=>?_,aR _⟩ ?_ (fun b' hb'=>.inl hb')⟩
 ·simp[convert,run_underlying ht,run_underlying he,markStringish,hsh]
 ·have:b≠k:=fun e=>hk e.symm
  simp[World.freeze,Array.getElem?_modify,this]
 ·simp[VV,World.freeze,Array.getElem?_modify,hb]
theorem EC {w0:Ctx} {w:World} {M:Mem} {b e sz:Nat} {c:Array Value} {fz:Nat×Nat} (h:Sat w0 M w) (j:Nat) (rows:List (Array Value)) (hm:M[j]?=some (.inl (b,Obj.cells c e fz)))
  (hl:rows.length<4611686018427387904) (hs:∀ r∈rows,r.size=sz) (hc:c.toList=Go.Eng.flat rows):Rd w sz (some ⟨b,0,none⟩) rows:=by
 have hb:=h.block (aH hm)
 refine⟨hl,fun i r hi=>⟨hs r (aH hi),_,rfl,Us hb,fun k v hv=>?_⟩⟩
 rw[JS,cell_of_row w b _ c e fz hb]
 have:(Go.Eng.flat rows)[i*sz+k]?=some v:=UU rows hs i r hi k v hv
 rw[← hc,aZ] at this
 exact this
theorem Om {α:Type} {c:α→Array Value} {P:Program} {w0:Ctx} {M:Mem} {t e sz bytes cap2 m:Nat} {a:Addr} {B:Option Addr} (l:List α) (ty:TypeId) (news:List α) (hT:Uu P t e sz bytes=true) (hsz:Nat.blt 0 sz=true)
  (hrA:∀ w,Sat w0 M w→Rd w sz (some a) (l.map c)) (hr:∀ w,Sat w0 M w→Rd w sz B (news.map c)) (hm:m=news.length) (h0:0<news.length)
  (hlen:(l.length+news.length)*bytes≤140737488355328) (hb:0<bytes) (w:World) (hM:Sat w0 M w) :
  ∃ (g:Option Addr×Nat) (w':World),(sV (Builtin.append_ #[t,t] ty #[.slice (some a) l.length l.length,.slice B m cap2])).run P w=.ok (.value (.slice g.1 (l++news).length g.2)) w' ∧
   Sat w0 (.inr (Own g.1 g.2 e sz ((l++news).map c))::M) w':=by
 obtain⟨hu,i,z,hi,hz,hs1,hs2,hs3⟩:=Va hT
 subst hm
 have gn:0<sz:=aL hsz
 have hlt:l.length+news.length≤140737488355328:=bH (Nat.le_mul_of_pos_right _ hb) hlen
 have hRA:=hrA w hM
 have hRB:=hr w hM
 obtain⟨b,rfl⟩:∃ b,B=some b:=by
  have h2:(news.map c)[0]?=some (c news[0]):=by rw[cK,aS h0];rfl
  obtain⟨_,ad,h3,_⟩:=hRB.row 0 _ h2
  exact⟨ad,h3⟩
 have eA:∀ r∈l.map c,r.size=sz:=fun r hm=>by
  obtain⟨k,hk⟩:=cQ hm
  exact(hRA.row k r hk).1
 have eB:∀ r∈news.map c,r.size=sz:=fun r hm=>by
  obtain⟨k,hk⟩:=cQ hm
  exact(hRB.row k r hk).1
 have e2:∀ r∈(l++news).map c,r.size=sz:=fun r hr=>by
  rw[dD] at hr
  rcases bD.1 hr with hr|hr
  ·exact eA r hr
  ·exact eB r hr
 have hnc:=growslice_fits (old:=l.length) (need:=l.length+news.length) (bytes:=i.bytes)
 have wk:=run_append_grow (P:=P) w t ty e i z hu hi hz a l.length l.length (flat (l.map c)) (by rw[Qr _ eA,hs1,aF]) (hRA.flat gn) b news.length cap2 (flat (news.map c)) (by rw[Qr _ eB,hs1,aF]) (hRB.flat gn)
  (by omega) (by omega) (hnc (by omega) (by rw[hs2];exact hlen))
 have hge:=grownCap_ge w (l.length+news.length) l.length e
 have hcm:=grownCap_le_maxLen w (l.length+news.length) l.length e (by simp only[maxLen];omega)
 have hlf:(flat (l.map c)++flat (news.map c)).length=(l.length+news.length)*sz:=by rw[aI,Qr _ eA,Qr _ eB,aF,aF,cP]
 refine⟨(some ⟨w.heap.size,0,none⟩,grownCap w (l.length+news.length) l.length e),_,by rw[aI];exact Uw wk,?_⟩
 refine hM.push (((Below.refl _ w).drew).alloc (aR _) _) _ ?_ (fun b' hb'=>?_)
 ·refine .inr ⟨_,_,rfl,by omega,heap_alloc_new w.drew _,by rw[aF,aI];exact hge,hcm,?_,?_,e2,by rw[aF,aI];omega⟩
  ·simp only[Array.size_append,dN,size_zeroCells,hs3]
   rw[← aI,hlf,← cP]
   congr 1
   omega
  ·simp only[Array.toList_append,aT]
   rw[← aT,aF,aI,← hlf,dD,V9]
   exact List.take_left
 ·obtain⟨_,ad,h2,rfl⟩:=hb'
  simp only[aD] at h2
  subst h2
  exact aR _
end Go.Eng
namespace Go.Sky
open Go Go.Eng Go.Proofs
abbrev SWm (b:Nat):Ent:=.inl (b,.cells #[.int .u8 83,.int .u8 87] 5 (2,3))
abbrev by0 (n:Int):Int:=wu8 (n.fdiv (2 ^ (min (0:Int).toNat 64)))
theorem IJ (b:Nat) (n:Int) (w:World) (hM:Sat ⟨w,XS [SWm b]⟩ [SWm b] w):Calls Tryz.prog 28 #[.slice (some ⟨b,0,none⟩) 2 2,.int .u64 n,.int .i64 1] w (JD (Γ:=(List Int)×(Option Addr)×Nat) ⟨w,XS [SWm b]⟩ (fun g=>.slice g.2.1 g.1.length g.2.2)
  (fun g=>[.inr (XG (g.1=([83,87]:List Int)++be n (1:Int).toNat)),.inr (Own g.2.1 g.2.2 5 1 (g.1.map ic8))])):=by
 refine YW (w0:=⟨w,XS [SWm b]⟩) (vs:=[.slice (some ⟨b,0,none⟩) 2 2,.int .u64 n,.int .i64 1]) hM Tryz.func28 rfl Tryz.ntmps28 rfl ?_
 refine J2 [(0,.slice (some ⟨b,0,none⟩) 2 2),(1,.int .u64 n),(2,.int .i64 1)] (by kernel_rfl) ?_
 refine TC.seq ?_
 refine TC.region ?_
 refine TL.run 1 [] [(0,.slice (some ⟨b,0,none⟩) 2 2),(1,.int .u64 n),(2,.int .i64 1)] rfl ⟨by kernel_rfl,by kernel_rfl⟩ ?_
 refine Zb rfl ?_
 refine TC.seq ?_
 refine TC.seq ?_
 refine TC.region ?_
 refine TL.run 3 [] [(0,.slice (some ⟨b,0,none⟩) 2 2),(1,.int .u64 n),(7,.int .i64 0)] rfl ⟨by kernel_rfl,by kernel_rfl⟩ ?_
 refine Zb rfl ?_
 refine TC.cut (S:=Option Addr×Nat) (fun g=>[(0,.slice g.1 3 g.2)]) (fun g=>[.inr (Own g.1 g.2 5 1 (([83,87,by0 n]:List Int).map ic8))]) (fun _=>True) ?_ ?_
 ·refine TC.block ?_
  refine TC.loop (X:=Option (Option Addr×Nat)) (fun x=>match x with|none=>[(0,.slice (some ⟨b,0,none⟩) 2 2),(1,.int .u64 n),(7,.int .i64 0)]|some g=>[(0,.slice g.1 3 g.2),(1,.int .u64 n),(7,.int .i64 (-1))])
   (fun x=>match x with|none=>[SWm b]|some g=>[.inr (Own g.1 g.2 5 1 (([83,87,by0 n]:List Int).map ic8)),SWm b]) (fun x=>match x with|none=>1|some _=>0) (fun _=>True) ?_ none trivial
  rintro(_|g) _
  ·refine TC.seq ?_
   refine TC.seq ?_
   refine TC.region ?_
   refine TL.run 2 [] [(0,.slice (some ⟨b,0,none⟩) 2 2),(1,.int .u64 n),(7,.int .i64 0),(11,.bool true)] rfl ⟨by kernel_rfl,by kernel_rfl⟩ ?_
   refine Zb rfl ?_
   refine Xo rfl (by kernel_rfl) ?_
   refine TC.skip ?_
   refine Z4 ?_
   refine TC.seq ?_
   refine TC.block ?_
   refine TC.region ?_
   refine TL.run 4 [] [(1,.int .u64 n),(7,.int .i64 0),(14,.slice (some ⟨b,0,none⟩) 2 2),(15,.int .u64 n),(17,.int .i64 0)] rfl ⟨by kernel_rfl,by kernel_rfl⟩ ?_
   refine ZW (sV (binOp .shr 82 (.int .u64 n) (.int .i64 0))) (some 18) (.int .u64 (n.fdiv (2 ^ (min (0:Int).toNat 64)))) [(1,.int .u64 n),(7,.int .i64 0),(14,.slice (some ⟨b,0,none⟩) 2 2),(18,.int .u64 (n.fdiv (2 ^ (min (0:Int).toNat 64))))] (fun w hM=>GN (by decide)) (by kernel_rfl) (by kernel_rfl) ?_
   refine TL.run 6 [] [(1,.int .u64 n),(7,.int .i64 0),(14,.slice (some ⟨b,0,none⟩) 2 2),(19,.int .u8 (by0 n))] rfl ⟨by kernel_rfl,by kernel_rfl⟩ ?_
   refine K4 0 (fun b1=>[(1,.int .u64 n),(7,.int .i64 0),(14,.slice (some ⟨b,0,none⟩) 2 2),(20,.slice (some ⟨b1,0,none⟩) 1 1)]) (fun b1=>[.inl (b1,.cells #[.int .u8 (by0 n)] 5 (0,0)),SWm b]) (fun b1=>⟨by kernel_rfl,by kernel_rfl⟩) (fun b1=>?_)
   refine GK (Γ:=Option Addr×Nat) (sV (Builtin.append_ #[27,27] 27 #[.slice (some ⟨b,0,none⟩) 2 2,.slice (some ⟨b1,0,none⟩) 1 1])) (some 21) (fun g=>.slice g.1 3 g.2) (fun g=>[.inr (Own g.1 g.2 5 1 (([83,87,by0 n]:List Int).map ic8)),.inl (b1,.cells #[.int .u8 (by0 n)] 5 (0,0)),SWm b])
    (fun g=>[(1,.int .u64 n),(7,.int .i64 0),(21,.slice g.1 3 g.2)]) (Om (c:=ic8) (bytes:=1) ([83,87]:List Int) 27 ([by0 n]:List Int) (by kernel_rfl) rfl (fun w hM=>EC hM 1 _ rfl (by decide) (by simp[ic8]) rfl) (fun w hM=>Rd.lit hM 0 _ rfl (by kernel_rfl) (by kernel_rfl) (by kernel_rfl)) rfl Nat.zero_lt_one (by show 3*1≤140737488355328;decide) Nat.zero_lt_one) (by kernel_rfl) (fun g=>by kernel_rfl) ?_
   rintro⟨A,c⟩
   refine TL.run 9 [] [(0,.slice A 3 c),(1,.int .u64 n),(7,.int .i64 0)] rfl ⟨by kernel_rfl,by kernel_rfl⟩ ?_
   refine Z2 rfl ?_
   refine Gu ?_
   refine Z4 ?_
   refine TC.region ?_
   refine TL.run 3 [] [(0,.slice A 3 c),(1,.int .u64 n),(7,.int .i64 (-1))] rfl ⟨by kernel_rfl,by kernel_rfl⟩ ?_
   refine Z2 rfl ?_
   exact Z7 (x:=none) (some (A,c)) trivial Nat.zero_lt_one (by kernel_rfl) (.cons_cons _ (.cons _ (.cons_cons _ .slnil)))
  ·refine TC.seq ?_
   refine TC.seq ?_
   refine TC.region ?_
   refine TL.run 2 [] [(0,.slice g.1 3 g.2),(1,.int .u64 n),(7,.int .i64 (-1)),(11,.bool false)] rfl ⟨by kernel_rfl,by kernel_rfl⟩ ?_
   refine Zb rfl ?_
   refine Jr rfl (by kernel_rfl) ?_
   refine TC.exit ?_
   refine VS (VS (Z1 ?_))
   exact TE.cut g trivial (by kernel_rfl) (.cons_cons _ (.cons _ .slnil))
 ·rintro g _
  refine Z4 ?_
  refine TC.seq ?_
  refine TC.region ?_
  refine TL.run 2 [] [(6,.slice g.1 3 g.2)] rfl ⟨by kernel_rfl,by kernel_rfl⟩ ?_
  refine Zb rfl ?_
  refine TC.ret ?_
  exact ZN (.inl rfl) (([83,87,by0 n]:List Int),g.1,g.2) [] (.slice g.1 3 g.2) ⟨by kernel_rfl,by kernel_rfl⟩ rfl (fun _ hM=>(hM.sub (.cons_cons _ .slnil)).fact rfl)
end Go.Sky
end
section
namespace Go.Sky
open Go Go.Eng Go.Proofs
def Qh (f:Zs):List Zr→Nat→((Unit) ⊕ (Int))
 | [],_=>.inl ()
 | x::xs,k=>cond ((x.Radar != f.Radar)||(x.Time != f.Time)) (
   .inr 3) (
   cond ((((((((decide (x.Range<0))||(decide (x.Range>2000000)))||(decide (x.Azimuth<0)))||(decide (x.Azimuth>4095)))||(decide (x.Height<0)))||(decide (x.Height>60000)))||(decide (x.Code<(-1))))||(decide (x.Code>4095))) (
    .inr 4) (
    Qh f xs (k+1)))
def Xm (f:Zs):Int :=
 cond (decide ((f.Plots.length:Int)>32)) (
  2) (
  cond ((((decide (f.Radar<0))||(decide (f.Radar>255)))||(decide (f.Time<0)))||(decide (f.Time>200000))) (
   4) (
   Sum.elim (fun _ =>
    0) (fun r=>r) (Qh f f.Plots 0)))
set_option maxHeartbeats 4000000 in
theorem NQ (f:Zs) (A_f_Plots:Option Addr) (qs:Nat) (w:World) (jo:Rd w 6 A_f_Plots (f.Plots.map Zr.c)) (_hc_f_Plots:f.Plots.length≤qs):Calls Tryz.prog 27 #[.agg #[.int .i64 f.Radar,.int .i64 f.Time,.slice A_f_Plots f.Plots.length qs]] w (Ret w (.int .i64 (Xm f))):=by
 have yf:=jo.short;rw[aF] at yf
 refine Zo (vs:=[.agg #[.i f.Radar,.i f.Time,.slice A_f_Plots f.Plots.length qs]]) (w:=w) Tryz.func27 rfl Tryz.ntmps27 rfl (Ze (ZH 1 (fun b1=>.p0 b1) (fun b1=>Bk b1 #[.i f.Radar,.i f.Time,.slice A_f_Plots f.Plots.length qs] 36) (fun b1=>{}) (fun b1=>Zc 2 [] [(2,.i 0)] {} (Zz (TC.block (Ze (Zc 5 [0] [(5,.b (decide ((f.Plots.length:Int)>32)))] {} (Zb rfl (TC.cond (decide ((f.Plots.length:Int)>32)) rfl Kr (fun h1=>?_) (fun h1=>?_))))))))))
 ·refine Ze (Zc 1 [] [(2,.i 2)] {} (Zb rfl (TC.ret (ZY (Zq ?_)))))
  exact TE.ret [] (.i 2) {} (by unfold Xm;refine eS (fun z=>(.i z:Value)) ?_;exact Zk h1 (rfl))
 ·have j4:=(Zt h1)
  refine Ze (Zc 4 [0] [(14,.b (decide (f.Radar<0)))] {} (XT 14 (decide (f.Radar<0)) 8 [] [0] (fun β=>[(18,.b (β||(decide (f.Radar>255))))]) Kr {} {} (Zc 9 [] [(19,.b ((decide (f.Radar<0))||(decide (f.Radar>255))))] {} (XT 19 ((decide (f.Radar<0))||(decide (f.Radar>255))) 13 [] [0] (fun β=>[(23,.b (β||(decide (f.Time<0))))]) Kr {} {} (Zc 14 [] [(24,.b (((decide (f.Radar<0))||(decide (f.Radar>255)))||(decide (f.Time<0))))] {} (XT 24 (((decide (f.Radar<0))||(decide (f.Radar>255)))||(decide (f.Time<0))) 18 [] [0] (fun β=>[(28,.b (β||(decide (f.Time>200000))))]) Kr {} {} (Zc 19 [] [(10,.b ((((decide (f.Radar<0))||(decide (f.Radar>255)))||(decide (f.Time<0)))||(decide (f.Time>200000))))] {} (Zb rfl (TC.cond ((((decide (f.Radar<0))||(decide (f.Radar>255)))||(decide (f.Time<0)))||(decide (f.Time>200000))) rfl Kr (fun h2=>?_) (fun h2=>?_))))))))))
  ·refine Ze (Zc 1 [] [(2,.i 4)] {} (Zb rfl (TC.ret (ZY (Zq ?_)))))
   exact TE.ret [] (.i 4) {} (by unfold Xm;refine eS (fun z=>(.i z:Value)) ?_;exact Zd h1 (Zk h2 (rfl)))
  ·have vr:=(Zt (Zx (Zx (Zx h2))))
   have ng:=(Zt (Z9 (Zx (Zx h2))))
   have oz:=(Zt (Z9 (Zx h2)))
   have o4:=(Zt (Z9 h2))
   refine TC.skip (Yr (Z4 (TC.seq (Ze (Zc 4 [0] [(30,.slice A_f_Plots f.Plots.length qs),(31,.i (f.Plots.length:Int)),(32,.i 0)] {} (Zb rfl ?_))))))
   obtain⟨R1,hR⟩:∃ R,R=Qh f f.Plots 0:=⟨_,rfl⟩
   refine TC.cut (S:=Unit) (fun (_:Unit)=>[]) (fun (_:Unit)=>[]) (fun (_:Unit)=>R1=.inl ()) ?_ ?_
   ·refine TC.block (XB (X:=Nat) (fun k=>[(1,.p0 b1),(30,.slice A_f_Plots f.Plots.length qs),(31,.i (f.Plots.length:Int)),(32,.i (k:Int))]) (fun k=>[Bk b1 #[.i f.Radar,.i f.Time,.slice A_f_Plots f.Plots.length qs] 36]) (fun k=>f.Plots.length-k) (fun k=>k≤f.Plots.length∧R1=Qh f (f.Plots.drop k) k) ?_ 0 ⟨aN _,hR⟩ Kr (sb 1))
    rintro k ⟨hk,hI⟩
    refine Ze (Zc 1 [] [(33,.b (decide ((k:Int)<(f.Plots.length:Int))))] {} (Zz (TC.cond (decide ((k:Int)<(f.Plots.length:Int))) rfl Kr (fun h3=>?_) (fun h3=>?_))))
    ·have hlt:=ltN h3
     obtain⟨x,hx⟩:=elN hlt
     have hd:=drop_at hx
     refine Yg (TC.seq (TC.block (Ze (TL.v (sV (Instr.indexAt 28 (.slice A_f_Plots f.Plots.length qs) (.i (k:Int)))) 34 (.pointer (some (Ix A_f_Plots (k*6)))) (fun w hM=>Zy (jo.sat hM) (by simp) Kr sd sd) {} (TL.v (sV (Instr.loadAt 40 (.pointer (some (Ix A_f_Plots (k*6)))))) 35 (Zr.v x) (fun w hM=>Yd (n:=6) (off:=0) (i:=k) (Zr.v x) (jo.sat hM) (ZR hx) Kr Kr Kr) {} (ZH 4 (fun b2=>.p0 b2) (fun b2=>Bk b2 (Zr.c Zr.zero) 40) (fun b2=>{}) (fun b2=>Ym 0 (Bk b2 (Zr.c x) 40) (fun _=>{}) (Zz (Ze (Zc 6 [0,1] [(41,.b (x.Radar != f.Radar))] {} (XT 41 (x.Radar != f.Radar) 12 [] [0,1] (fun β=>[(47,.b (β||(x.Time != f.Time)))]) Kr {} {} (Zb rfl (TC.cond ((x.Radar != f.Radar)||(x.Time != f.Time)) rfl Kr (fun h4=>?_) (fun h4=>?_))))))))))))))
     ·refine Ze (Zc 1 [] [(2,.i 3)] {} (Zb rfl (TC.ret (Zq (ZY (Zq (Zq (ZY (Zq (Zq ?_))))))))))
      exact TE.ret [] (.i 3) {} (by unfold Xm;refine eS (fun z=>(.i z:Value)) ?_;exact Zd h1 (Zd h2 (Q4 (hR.symm.trans (hI.trans (by rw[hd];exact Zk h4 (rfl)))) rfl)))
     ·have yl:=(Jb (Zx h4))
      have o5:=(Jb (Z9 h4))
      refine ZI (Zc 4 [0] [(51,.b (decide (x.Range<0)))] {} (XT 51 (decide (x.Range<0)) 8 [] [0] (fun β=>[(55,.b (β||(decide (x.Range>2000000))))]) Kr {} {} (Zc 9 [] [(56,.b ((decide (x.Range<0))||(decide (x.Range>2000000))))] {} (XT 56 ((decide (x.Range<0))||(decide (x.Range>2000000))) 13 [] [0] (fun β=>[(60,.b (β||(decide (x.Azimuth<0))))]) Kr {} {} (Zc 14 [] [(61,.b (((decide (x.Range<0))||(decide (x.Range>2000000)))||(decide (x.Azimuth<0))))] {} (XT 61 (((decide (x.Range<0))||(decide (x.Range>2000000)))||(decide (x.Azimuth<0))) 18 [] [0] (fun β=>[(65,.b (β||(decide (x.Azimuth>4095))))]) Kr {} {} (Zc 19 [] [(66,.b ((((decide (x.Range<0))||(decide (x.Range>2000000)))||(decide (x.Azimuth<0)))||(decide (x.Azimuth>4095))))] {} (XT 66 ((((decide (x.Range<0))||(decide (x.Range>2000000)))||(decide (x.Azimuth<0)))||(decide (x.Azimuth>4095))) 23 [] [0] (fun β=>[(70,.b (β||(decide (x.Height<0))))]) Kr {} {} (Zc 24 [] [(71,.b (((((decide (x.Range<0))||(decide (x.Range>2000000)))||(decide (x.Azimuth<0)))||(decide (x.Azimuth>4095)))||(decide (x.Height<0))))] {} (XT 71 (((((decide (x.Range<0))||(decide (x.Range>2000000)))||(decide (x.Azimuth<0)))||(decide (x.Azimuth>4095)))||(decide (x.Height<0))) 28 [] [0] (fun β=>[(75,.b (β||(decide (x.Height>60000))))]) Kr {} {} (Zc 29 [] [(76,.b ((((((decide (x.Range<0))||(decide (x.Range>2000000)))||(decide (x.Azimuth<0)))||(decide (x.Azimuth>4095)))||(decide (x.Height<0)))||(decide (x.Height>60000))))] {} (XT 76 ((((((decide (x.Range<0))||(decide (x.Range>2000000)))||(decide (x.Azimuth<0)))||(decide (x.Azimuth>4095)))||(decide (x.Height<0)))||(decide (x.Height>60000))) 33 [] [0] (fun β=>[(80,.b (β||(decide (x.Code<(-1)))))]) Kr {} {} (Zc 34 [] [(81,.b (((((((decide (x.Range<0))||(decide (x.Range>2000000)))||(decide (x.Azimuth<0)))||(decide (x.Azimuth>4095)))||(decide (x.Height<0)))||(decide (x.Height>60000)))||(decide (x.Code<(-1)))))] {} (XT 81 (((((((decide (x.Range<0))||(decide (x.Range>2000000)))||(decide (x.Azimuth<0)))||(decide (x.Azimuth>4095)))||(decide (x.Height<0)))||(decide (x.Height>60000)))||(decide (x.Code<(-1)))) 38 [] [0] (fun β=>[(85,.b (β||(decide (x.Code>4095))))]) Kr {} {} (Zb rfl (TC.cond ((((((((decide (x.Range<0))||(decide (x.Range>2000000)))||(decide (x.Azimuth<0)))||(decide (x.Azimuth>4095)))||(decide (x.Height<0)))||(decide (x.Height>60000)))||(decide (x.Code<(-1))))||(decide (x.Code>4095))) rfl Kr (fun h5=>?_) (fun h5=>?_)))))))))))))))))
      ·refine Ze (Zc 1 [] [(2,.i 4)] {} (Zb rfl (TC.ret (ZY (Zq (Zq (ZY (Zq (Zq ?_)))))))))
       exact TE.ret [] (.i 4) {} (by unfold Xm;refine eS (fun z=>(.i z:Value)) ?_;exact Zd h1 (Zd h2 (Q4 (hR.symm.trans (hI.trans (by rw[hd];exact Zd h4 (Zk h5 (rfl))))) rfl)))
      ·have yr:=(Zt (Zx (Zx (Zx (Zx (Zx (Zx (Zx h5))))))))
       have o6:=(Zt (Z9 (Zx (Zx (Zx (Zx (Zx (Zx h5))))))))
       have o7:=(Zt (Z9 (Zx (Zx (Zx (Zx (Zx h5)))))))
       have o8:=(Zt (Z9 (Zx (Zx (Zx (Zx h5))))))
       have o9:=(Zt (Z9 (Zx (Zx (Zx h5)))))
       have q5_5:=(Zt (Z9 (Zx (Zx h5))))
       have q5_6:=(Zt (Z9 (Zx h5)))
       have q5_7:=(Zt (Z9 h5))
       exact TC.skip (Yr (Z4 (TC.region (Zc 2 [] [(32,.i (w64 ((k:Int)+1)))] {} (Z2 rfl (TE.rw 32 (.i (w64 ((k:Int)+1))) (.i ((k+1:Nat):Int)) Kr (ZT k (by omega)) (Z7 (x:=k) (k+1) ⟨by omega,hI.trans (by rw[hd];exact Zd h4 (Zd h5 (rfl)))⟩ (mN hlt) Kr (sb 2))))))))
    ·have hd:=QE h3
     refine TC.exit (Yc (Yc (Z1 ?_)))
     exact TE.cut () (hI.trans (by rw[hd];exact rfl)) Kr (sb 0)
   ·intro _ hJ
    exact YZ (Zc 1 [] [(2,.i 0)] {} (Zb rfl (TC.ret (TE.ret [] (.i 0) {} (by unfold Xm;refine eS (fun z=>(.i z:Value)) ?_;exact Zd h1 (Zd h2 (Q2 (hR.symm.trans hJ) (rfl))))))))
def Ji (s:ByteArray):Nat→Nat→Int→Int→(Int×Int)
 | 0,_,a,b_=>(a,b_)
 | m+1,k,a,b_=>Ji s m (k+1) ((w64 (a+(w64 (bat s k)))).tmod 255) ((w64 (((w64 (a+(w64 (bat s k)))).tmod 255)+b_)).tmod 255)
def QR (s:ByteArray):Int :=
 Xq (Ji s s.size 0 0 0) (fun (a_2,zu) =>
  w64 ((w64 (256*zu))+a_2))
theorem D3 (s:ByteArray) (w:World) (hs:s.size≤140737488355328):Calls Tryz.prog 30 #[.string s] w (Ret w (.int .i64 (QR s))):=by
 refine Zo (vs:=[.string s]) (w:=w) Tryz.func30 rfl Tryz.ntmps30 rfl (Ze (Zc 1 [] [(2,.i 0)] {} (Zv (Zc 2 [] [(3,.i 0),(4,.i 0)] {} (Zz (Ze (Zc 3 [] [(7,.i (s.size:Int)),(8,.i 0)] {} (Zb rfl ?_))))))))
 obtain⟨R1,hR⟩:∃ R,R=Ji s s.size 0 0 0:=⟨_,rfl⟩
 refine TC.cut (S:=Int×Int) (fun (a_2,zu)=>[(3,.i a_2),(4,.i zu)]) (fun (a_2,zu)=>[]) (fun (a_2,zu)=>R1=(a_2,zu)) ?_ ?_
 ·refine TC.block (XB (X:=Nat×Int×Int) (fun (k,a,b_)=>[(0,.string s),(3,.i a),(4,.i b_),(7,.i (s.size:Int)),(8,.i (k:Int))]) (fun (k,a,b_)=>[]) (fun (k,a,b_)=>s.size-k) (fun (k,a,b_)=>k≤s.size∧R1=Ji s (s.size-k) k a b_) ?_ (0,0,0) ⟨aN _,hR⟩ Kr (sb 0))
  rintro⟨k,a,b_⟩ ⟨hk,hI⟩
  refine Ze (Zc 1 [] [(9,.b (decide ((k:Int)<(s.size:Int))))] {} (Zz (TC.cond (decide ((k:Int)<(s.size:Int))) rfl Kr (fun h1=>?_) (fun h1=>?_))))
  ·have hlt:k<s.size:=by have:=of_decide_eq_true h1;first|omega|(simp at this;omega)
   have hd:s.size-k=(s.size-(k+1))+1:=by omega
   exact Yg (TC.seq (TC.block (Ze (Zc 2 [] [(5,.i (k:Int))] {} (Zv (Zc 3 [] [(11,.i a),(12,.string s),(13,.i (k:Int))] {} (TL.v (sV (Instr.index 9 (.string s) (.i (k:Int)))) 14 (.int .u8 (bat s k)) (fun w hM=>XC Kr sdr sdr) {} (Zc 8 [] [(3,.i ((w64 (a+(w64 (bat s k)))).tmod 255))] {} (Zb rfl (TC.region (Zc 5 [] [(4,.i ((w64 (((w64 (a+(w64 (bat s k)))).tmod 255)+b_)).tmod 255))] {} (Z2 rfl (Yr (Z4 (TC.region (Zc 2 [] [(8,.i (w64 ((k:Int)+1)))] {} (Z2 rfl (TE.rw 8 (.i (w64 ((k:Int)+1))) (.i ((k+1:Nat):Int)) Kr (ZT k (by omega)) (Z7 (x:=(k,a,b_)) (k+1,(w64 (a+(w64 (bat s k)))).tmod 255,(w64 (((w64 (a+(w64 (bat s k)))).tmod 255)+b_)).tmod 255) ⟨by omega,hI.trans (by rw[hd];exact rfl)⟩ (mN hlt) Kr (sb 0))))))))))))))))))))
  ·have hd:s.size-k=0:=by have:=of_decide_eq_false h1;first|omega|(simp at this;omega)
   refine TC.exit (Yc (Yc (Z1 ?_)))
   exact TE.cut (a,b_) (hI.trans (by rw[hd];exact rfl)) Kr (sb 0)
 ·rintro⟨a_2,zu⟩ hJ
  exact YZ (Zc 5 [] [(2,.i (w64 ((w64 (256*zu))+a_2)))] {} (Zb rfl (TC.ret (TE.ret [] (.i (w64 ((w64 (256*zu))+a_2))) {} (by unfold QR;refine eS (fun z=>(.i z:Value)) ?_;exact Y5 (hR.symm.trans hJ) (rfl))))))
def J0 (s:ByteArray):Nat→Nat→Int→Int
 | 0,_,n=>n
 | m+1,k,n=>J0 s m (k+1) (kor .u64 (Z0 (n*2 ^ 8)) (Z0 (bat s k)))
def Yq (s:ByteArray):Int :=
 Xq (J0 s s.size 0 0) (fun n_2 =>
  n_2)
theorem KR (s:ByteArray) (w:World) (hs:s.size≤140737488355328):Calls Tryz.prog 65 #[.string s] w (Ret w (.int .u64 (Yq s))):=by
 refine Zo (vs:=[.string s]) (w:=w) Tryz.func65 rfl Tryz.ntmps65 rfl (Ze (Zc 1 [] [(2,.int .u64 0)] {} (Zv (Zc 1 [] [(3,.int .u64 0)] {} (Zz (Ze (Zc 3 [] [(6,.i (s.size:Int)),(7,.i 0)] {} (Zb rfl ?_))))))))
 obtain⟨R1,hR⟩:∃ R,R=J0 s s.size 0 0:=⟨_,rfl⟩
 refine TC.cut (S:=Int) (fun n_2=>[(3,.int .u64 n_2)]) (fun n_2=>[]) (fun n_2=>R1=n_2) ?_ ?_
 ·refine TC.block (XB (X:=Nat×Int) (fun (k,n)=>[(0,.string s),(3,.int .u64 n),(6,.i (s.size:Int)),(7,.i (k:Int))]) (fun (k,n)=>[]) (fun (k,n)=>s.size-k) (fun (k,n)=>k≤s.size∧R1=J0 s (s.size-k) k n) ?_ (0,0) ⟨aN _,hR⟩ Kr (sb 0))
  rintro⟨k,n⟩ ⟨hk,hI⟩
  refine Ze (Zc 1 [] [(8,.b (decide ((k:Int)<(s.size:Int))))] {} (Zz (TC.cond (decide ((k:Int)<(s.size:Int))) rfl Kr (fun h1=>?_) (fun h1=>?_))))
  ·have hlt:k<s.size:=by have:=of_decide_eq_true h1;first|omega|(simp at this;omega)
   have hd:s.size-k=(s.size-(k+1))+1:=by omega
   exact Yg (TC.seq (TC.block (Ze (Zc 2 [] [(4,.i (k:Int))] {} (Zb rfl (TC.region (Zc 4 [] [(11,.int .u64 (Z0 (n*2 ^ 8))),(12,.string s),(13,.i (k:Int))] {} (TL.v (sV (Instr.index 9 (.string s) (.i (k:Int)))) 14 (.int .u8 (bat s k)) (fun w hM=>XC Kr sd sd) {} (Zc 8 [] [(3,.int .u64 (kor .u64 (Z0 (n*2 ^ 8)) (Z0 (bat s k))))] {} (Z2 rfl (Yr (Z4 (TC.region (Zc 2 [] [(7,.i (w64 ((k:Int)+1)))] {} (Z2 rfl (TE.rw 7 (.i (w64 ((k:Int)+1))) (.i ((k+1:Nat):Int)) Kr (ZT k (by omega)) (Z7 (x:=(k,n)) (k+1,kor .u64 (Z0 (n*2 ^ 8)) (Z0 (bat s k))) ⟨by omega,hI.trans (by rw[hd];exact rfl)⟩ (mN hlt) Kr (sb 0))))))))))))))))))
  ·have hd:s.size-k=0:=by have:=of_decide_eq_false h1;first|omega|(simp at this;omega)
   refine TC.exit (Yc (Yc (Z1 ?_)))
   exact TE.cut n (hI.trans (by rw[hd];exact rfl)) Kr (sb 0)
 ·rintro n_2 hJ
  exact YZ (Zc 2 [] [(2,.int .u64 n_2)] {} (Zb rfl (TC.ret (TE.ret [] (.int .u64 n_2) {} (by unfold Yq;refine eS (fun z=>(.int .u64 z:Value)) ?_;exact Y5 (hR.symm.trans hJ) (rfl))))))
theorem WG (A_b_:Option Addr) (vj:Nat) (b_:List Int) (n:Int) (size:Int) (w:World) (hM:Sat ⟨w,XS [.inr (Own A_b_ vj 5 1 (b_.map ic8))]⟩ [.inr (Own A_b_ vj 5 1 (b_.map ic8))] w) (hb:b_.length≤100000) (hs:0≤size∧size≤8):Calls Tryz.prog 28 #[.slice A_b_ b_.length vj,.int .u64 n,.int .i64 size] w (JD (Γ:=(List Int)×(Option Addr)×Nat) ⟨w,XS [.inr (Own A_b_ vj 5 1 (b_.map ic8))]⟩ (fun g=>.slice g.2.1 g.1.length g.2.2) (fun g=>[.inr (XG (g.1=b_++be n (size:Int).toNat)),.inr (Own g.2.1 g.2.2 5 1 (g.1.map ic8))])):=by
 refine YW (w0:=⟨w,XS [Ow A_b_ vj 5 1 (b_.map ic8)]⟩) (vs:=[.slice A_b_ b_.length vj,.int .u64 n,.i size]) hM Tryz.func28 rfl Tryz.ntmps28 rfl (J2 [(0,.slice A_b_ b_.length vj),(1,.int .u64 n),(2,.i size)] Kr (Gn (fun w hM=>hM.short_at 0 rfl) (fun s_b_=>Ze (TL.run 1 [] [(0,.slice A_b_ b_.length vj),(1,.int .u64 n),(2,.i size)] rfl {} (Zz (Ze (TL.run 3 [] [(0,.slice A_b_ b_.length vj),(1,.int .u64 n),(7,.i (w64 (size-1)))] rfl {} (TL.rw 7 (.i (w64 (size-1))) (.i (size-1)) Kr (int_eq (by rw[Zu (x:=(size-1)) (by omega)])) (Zb rfl (J2 [(0,.slice A_b_ b_.length vj),(1,.int .u64 n),(7,.i (size-1))] Kr (TC.cut (S:=(List Int)×(Option Addr)×Nat) (fun (u9,A_b__3,k6)=>[(0,.slice A_b__3 u9.length k6)]) (fun (u9,A_b__3,k6)=>[Ow A_b__3 k6 5 1 (u9.map ic8)]) (fun (u9,A_b__3,k6)=>(u9=b_++be n size.toNat)) ?_ ?_)))))))))))
 ·refine TC.block (TC.loop (X:=(List Int)×Int×(Option Addr)×Nat) (fun (zu,i,A_b__2,zx)=>[(0,.slice A_b__2 zu.length zx),(1,.int .u64 n),(7,.i i)]) (fun (zu,i,A_b__2,zx)=>[Ow A_b__2 zx 5 1 (zu.map ic8)]) (fun (zu,i,A_b__2,zx)=>(i+1).toNat) (fun (zu,i,A_b__2,zx)=>((-1≤i∧i<size)∧zu++be n (i+1).toNat=b_++be n size.toNat)) ?_ (b_,(size-1),A_b_,vj) (by first|exact⟨by omega,by congr 2;omega⟩))
  rintro⟨zu,i,A_b__2,zx⟩ hv0
  refine TC.seq (Ze (TL.run 2 [] [(0,.slice A_b__2 zu.length zx),(1,.int .u64 n),(7,.i i),(11,.b (decide (i≥0)))] rfl {} (Zb rfl (TC.cond (decide (i≥0)) rfl Kr (fun h1=>?_) (fun h1=>?_)))))
  ·refine Yg (TC.seq (TC.block (TC.region (TL.run 4 [] [(1,.int .u64 n),(7,.i i),(14,.slice A_b__2 zu.length zx),(15,.int .u64 n),(17,.i (w64 (8*i)))] rfl {} (TL.rw 17 (.i (w64 (8*i))) (.i (8*i)) Kr (int_eq (by have q0_:=(Ys h1);have gw:=hv0.1;have kl_:=WF hv0.2;rw[Zu (x:=(8*i)) (by omega)])) (ZW (sV (binOp .shr 82 (.int .u64 n) (.i (8*i)))) (some 18) (.int .u64 (n.fdiv (2 ^ (min (8*i).toNat 64)))) [(1,.int .u64 n),(7,.i i),(14,.slice A_b__2 zu.length zx),(18,.int .u64 (n.fdiv (2 ^ (min (8*i).toNat 64))))] (fun w hM=>GN (by have q0_:=(Ys h1);have gw:=hv0.1;have kl_:=WF hv0.2;exact sd)) Kr Kr (TL.run 6 [] [(1,.int .u64 n),(7,.i i),(14,.slice A_b__2 zu.length zx),(19,.int .u8 (wu8 (n.fdiv (2 ^ (min (8*i).toNat 64)))))] rfl {} (K4 0 (fun b1=>[(1,.int .u64 n),(7,.i i),(14,.slice A_b__2 zu.length zx),(20,.slice (Pa b1) 1 1)]) (fun b1=>[Bk b1 #[.int .u8 (wu8 (n.fdiv (2 ^ (min (8*i).toNat 64))))] 5,Ow A_b__2 zx 5 1 (zu.map ic8)]) (fun b1=>{}) (fun b1=>GK (Γ:=AN) (sV (Builtin.append_ #[27,27] 27 #[.slice A_b__2 zu.length zx,.slice (Pa b1) 1 1])) (some 21) (fun g=>.slice g.1 (zu++([wu8 (n.fdiv (2 ^ (min (8*i).toNat 64)))])).length g.2) (fun g=>[Bk b1 #[.int .u8 (wu8 (n.fdiv (2 ^ (min (8*i).toNat 64))))] 5,Ow g.1 g.2 5 1 ((zu++([wu8 (n.fdiv (2 ^ (min (8*i).toNat 64)))])).map ic8)]) (fun g=>[(1,.int .u64 n),(7,.i i),(21,.slice g.1 ((zu++([wu8 (n.fdiv (2 ^ (min (8*i).toNat 64)))])).length) g.2)]) (Jc (bytes:=1) 27 1 ([wu8 (n.fdiv (2 ^ (min (8*i).toNat 64)))]) Kr rfl rfl Eb rfl (fun w hM=>(Rd.lit hM 0 _ rfl Kr Kr Kr)) rfl (by have q0_:=(Ys h1);have gw:=hv0.1;have kl_:=WF hv0.2;exact sa)) Kr (fun g=>Kr) ?_)))))))))
   rintro⟨A,c⟩
   exact TL.run 9 [] [(0,.slice A ((zu++([wu8 (n.fdiv (2 ^ (min (8*i).toNat 64)))])).length) c),(1,.int .u64 n),(7,.i i)] rfl {} (Z2 rfl (Yr (Z4 (TC.region (TL.run 3 [] [(0,.slice A ((zu++([wu8 (n.fdiv (2 ^ (min (8*i).toNat 64)))])).length) c),(1,.int .u64 n),(7,.i (w64 (i-1)))] rfl {} (TL.rw 7 (.i (w64 (i-1))) (.i (i-1)) Kr (int_eq (by have q0_:=(Ys h1);have gw:=hv0.1;have kl_:=WF hv0.2;rw[Zu (x:=(i-1)) (by omega)])) (Z2 rfl (Z7 (x:=(zu,i,A_b__2,zx)) ((zu++([wu8 (n.fdiv (2 ^ (min (8*i).toNat 64)))])),(i-1),A,c) (by have q0_:=(Ys h1);have gw:=hv0.1;have kl_:=WF hv0.2;first|exact⟨by omega,EB hv0.2 (by omega)⟩) (by have q0_:=(Ys h1);have gw:=hv0.1;have kl_:=WF hv0.2;(try dsimp only);omega) Kr (sb 2)))))))))
  ·refine TC.exit (Yc (Yc (Z1 ?_)))
   exact TE.cut (zu,A_b__2,zx) (by have q0_:=(Zt h1);have gw:=hv0.1;have kl_:=WF hv0.2;first|exact II hv0.2 (by omega)) Kr (sb 1)
 ·rintro⟨u9,A_b__3,k6⟩ ho0
  exact YZ (TL.run 2 [] [(6,.slice A_b__3 u9.length k6)] rfl {} (Zb rfl (TC.ret (ZN (.inl rfl) (u9,A_b__3,k6) [] (.slice A_b__3 u9.length k6) {} rfl (fun _ hM=>(hM.sub (sb 1)).fact (by (try dsimp only);first|exact ho0))))))
theorem ED (fy:Nat) (n:Int) (size:Int) (w:World) (hM:Sat ⟨w,XS [.inl (fy,.cells #[.int .u8 83,.int .u8 87] 5 (2,3))]⟩ [.inl (fy,.cells #[.int .u8 83,.int .u8 87] 5 (2,3))] w) (hs:size=1):Calls Tryz.prog 28 #[.slice (some ⟨fy,0,none⟩) 2 2,.int .u64 n,.int .i64 size] w (JD (Γ:=(List Int)×(Option Addr)×Nat) ⟨w,XS [.inl (fy,.cells #[.int .u8 83,.int .u8 87] 5 (2,3))]⟩ (fun g=>.slice g.2.1 g.1.length g.2.2) (fun g=>[.inr (XG (g.1=([83,87]:List Int)++be n (size:Int).toNat)),.inr (Own g.2.1 g.2.2 5 1 (g.1.map ic8))])):=by
 subst hs
 exact IJ fy n w hM
def XA:List Zr→Nat→(List Int)→(List Int)
 | [],_,b_=>b_
 | x::xs,k,b_=>let r5:=YJ x.Range 0
  let r6:=b_++be r5.1 (8:Int).toNat
  let r7:=r6++be (Z0 x.Azimuth) (2:Int).toNat
  let r8:=r7++be (Z0 x.Height) (4:Int).toNat
  let r9:=r8++be (Z0 (w64 (x.Code+1))) (2:Int).toNat
  XA xs (k+1) r9
def YF (f:Zs):ByteArray×Int :=
 let r1:=Xm f
 cond (r1 != 0) (
  ((⟨#[]⟩:ByteArray),r1)) (
  let r2:=([83,87]:List Int)++be (Z0 f.Radar) (1:Int).toNat
  let r3:=r2++be (Z0 f.Time) (4:Int).toNat
  let r4:=r3++be (Z0 (f.Plots.length:Int)) (2:Int).toNat
  Xq (XA f.Plots 0 r4) (fun zu =>
   let r10:=QR (strOf zu)
   let r11:=zu++be (Z0 r10) (2:Int).toNat
   (strOf r11,0)))
theorem XY {f:Zs} {r:Int} (h:Xm f=r) (h2:(r != 0)=false):f.Plots.length≤32:=by
 subst h
 unfold Xm at h2
 rcases dP 32 f.Plots.length with h3|h3
 ·rw[show decide ((f.Plots.length:Int)>32)=true from decide_eq_true (by omega)] at h2
  cases h2
 ·exact h3
set_option maxHeartbeats 4000000 in
theorem Wt (f:Zs) (A_f_Plots:Option Addr) (qs:Nat) (w:World) (jo:Rd w 6 A_f_Plots (f.Plots.map Zr.c)) (ga:f.Plots.length≤qs):Calls Tryz.prog 10 #[.agg #[.int .i64 f.Radar,.int .i64 f.Time,.slice A_f_Plots f.Plots.length qs]] w (Ret w (.tuple #[.string ((YF f).1),.int .i64 ((YF f).2)])):=by
 have yf:=jo.short;rw[aF] at yf
 refine Zo (vs:=[.agg #[.i f.Radar,.i f.Time,.slice A_f_Plots f.Plots.length qs]]) (w:=w) Tryz.func10 rfl Tryz.ntmps10 rfl (Ze (ZH 1 (fun b1=>.p0 b1) (fun b1=>Bk b1 #[.i f.Radar,.i f.Time,.slice A_f_Plots f.Plots.length qs] 36) (fun b1=>{}) (fun b1=>Zc 3 [] [(2,.string (⟨#[]⟩:ByteArray)),(3,.i 0)] {} (Zz (Ze (Zc 1 [0] [(10,.agg #[.i f.Radar,.i f.Time,.slice A_f_Plots f.Plots.length qs])] {} (TL.c 11 (Xm f) (fun r1=>.i r1) (fun w hM=>NQ f A_f_Plots qs w (jo.sat hM) ga) {} (fun r1 hr1=>Zc 3 [] [(4,.i r1)] {} (Zv (Zc 2 [] [(13,.b (r1 != 0))] {} (Zb rfl (TC.cond (r1 != 0) rfl Kr (fun h1=>?_) (fun h1=>?_)))))))))))))
 ·exact Ze (Zc 3 [] [(2,.string (⟨#[]⟩:ByteArray)),(3,.i r1)] {} (Zb rfl (TC.ret (Zq (TE.ret [] (.tuple #[.string (⟨#[]⟩:ByteArray),.i r1]) {} (by unfold YF;refine eS (a:=((⟨#[]⟩:ByteArray),r1)) (fun (z:ByteArray×Int)=>(.tuple #[.string z.1,.i z.2]:Value)) ?_;subst hr1;exact Zk h1 (rfl)))))))
 ·have j4:=(Jb h1)
  refine ZI (ZH 15 (fun b2=>.slice (Pa b2) 2 2) (fun b2=>Bk b2 #[.int .u8 83,.int .u8 87] 5) (fun b2=>{}) (fun b2=>GK (Γ:=Unit) (sV (convert 27 27 (.slice (Pa b2) 2 2))) (some 16) (fun _=>.slice (Pa b2) 2 2) (fun _=>[.inl (b2,.cells #[.int .u8 83,.int .u8 87] 5 (2,3)),Bk b1 #[.i f.Radar,.i f.Time,.slice A_f_Plots f.Plots.length qs] 36]) (fun _=>[(1,.p0 b1),(16,.slice (Pa b2) 2 2)]) (TY 0 Kr Kr rfl) Kr (fun _=>Kr) (fun _=>Zc 5 [1] [(19,.int .u64 (Z0 f.Radar))] {} (Xx (Γ:=(List Int)×(Option Addr)×Nat) (fun g=>.slice g.2.1 g.1.length g.2.2) (fun g=>[.inr (XG (g.1=([83,87]:List Int)++be (Z0 f.Radar) (1:Int).toNat)),Ow g.2.1 g.2.2 5 1 (g.1.map ic8)]) [.inl (b2,.cells #[.int .u8 83,.int .u8 87] 5 (2,3))] [Bk b1 #[.i f.Radar,.i f.Time,.slice A_f_Plots f.Plots.length qs] 36] (some 20) (fun g=>[(1,.p0 b1),(20,.slice g.2.1 g.1.length g.2.2)]) (fun w hM=>ED b2 (Z0 f.Radar) 1 w hM.pass (by (try have kc_:=XY hr1 h1);(try have vw:r2.length=3:=Zj hr2);(try have xz:r4.length≤9:=Nat.le_of_eq (Zj hr4));(try have vz:=Zj hr3);(try have xz:=Zj hr4);(try have v8:=Zj hr5);(try have ka:=Zj hr6);(try have kb:=Zj hr7);(try have kd:=Zj hr8);(try have ke:=Zj hr9);(try have jq:=Zj zl);(try have jr:=Zj zo);(try have js:=Zj z8);(try have jt:=Zj xa);exact sg)) Kr (fun g=>Kr) ?_))))
  rintro⟨r2,A,c⟩
  refine YS [.inr (XG (r2=([83,87]:List Int)++be (Z0 f.Radar) (1:Int).toNat)),Ow A c 5 1 (r2.map ic8),Bk b1 #[.i f.Radar,.i f.Time,.slice A_f_Plots f.Plots.length qs] 36] (fun _ hM=>hM) (Y2 (fun w hM=>hM.fact_at 0 rfl) (fun da=>YK [Ow A c 5 1 (r2.map ic8),Bk b1 #[.i f.Radar,.i f.Time,.slice A_f_Plots f.Plots.length qs] 36] (.cons _ (aA _)) ?_))
  have hr2:([83,87]:List Int)++be (Z0 f.Radar) (1:Int).toNat=r2:=(da).symm
  refine Zc 7 [] [(5,.slice A r2.length c)] {} (Zv (Zc 4 [1] [(21,.slice A r2.length c),(24,.int .u64 (Z0 f.Time))] {} (Xx (Γ:=(List Int)×(Option Addr)×Nat) (fun g=>.slice g.2.1 g.1.length g.2.2) (fun g=>[.inr (XG (g.1=r2++be (Z0 f.Time) (4:Int).toNat)),Ow g.2.1 g.2.2 5 1 (g.1.map ic8)]) [Ow A c 5 1 (r2.map ic8)] [Bk b1 #[.i f.Radar,.i f.Time,.slice A_f_Plots f.Plots.length qs] 36] (some 25) (fun g=>[(1,.p0 b1),(25,.slice g.2.1 g.1.length g.2.2)]) (fun w hM=>WG A c r2 (Z0 f.Time) 4 w hM.pass (by (try have kc_:=XY hr1 h1);(try have vw:r2.length=3:=Zj hr2);(try have xz:r4.length≤9:=Nat.le_of_eq (Zj hr4));(try have vz:=Zj hr3);(try have xz:=Zj hr4);(try have v8:=Zj hr5);(try have ka:=Zj hr6);(try have kb:=Zj hr7);(try have kd:=Zj hr8);(try have ke:=Zj hr9);(try have jq:=Zj zl);(try have jr:=Zj zo);(try have js:=Zj z8);(try have jt:=Zj xa);exact sg) (by (try have kc_:=XY hr1 h1);(try have vw:r2.length=3:=Zj hr2);(try have xz:r4.length≤9:=Nat.le_of_eq (Zj hr4));(try have vz:=Zj hr3);(try have xz:=Zj hr4);(try have v8:=Zj hr5);(try have ka:=Zj hr6);(try have kb:=Zj hr7);(try have kd:=Zj hr8);(try have ke:=Zj hr9);(try have jq:=Zj zl);(try have jr:=Zj zo);(try have js:=Zj z8);(try have jt:=Zj xa);exact sg)) Kr (fun g=>Kr) ?_)))
  rintro⟨r3,A_2,c_2⟩
  refine YS [.inr (XG (r3=r2++be (Z0 f.Time) (4:Int).toNat)),Ow A_2 c_2 5 1 (r3.map ic8),Bk b1 #[.i f.Radar,.i f.Time,.slice A_f_Plots f.Plots.length qs] 36] (fun _ hM=>hM) (Y2 (fun w hM=>hM.fact_at 0 rfl) (fun jh=>YK [Ow A_2 c_2 5 1 (r3.map ic8),Bk b1 #[.i f.Radar,.i f.Time,.slice A_f_Plots f.Plots.length qs] 36] (.cons _ (aA _)) ?_))
  have hr3:r2++be (Z0 f.Time) (4:Int).toNat=r3:=(jh).symm
  refine Zc 6 [] [(5,.slice A_2 r3.length c_2)] {} (Zv (Zc 5 [1] [(26,.slice A_2 r3.length c_2),(30,.int .u64 (Z0 (f.Plots.length:Int)))] {} (Xx (Γ:=(List Int)×(Option Addr)×Nat) (fun g=>.slice g.2.1 g.1.length g.2.2) (fun g=>[.inr (XG (g.1=r3++be (Z0 (f.Plots.length:Int)) (2:Int).toNat)),Ow g.2.1 g.2.2 5 1 (g.1.map ic8)]) [Ow A_2 c_2 5 1 (r3.map ic8)] [Bk b1 #[.i f.Radar,.i f.Time,.slice A_f_Plots f.Plots.length qs] 36] (some 31) (fun g=>[(1,.p0 b1),(31,.slice g.2.1 g.1.length g.2.2)]) (fun w hM=>WG A_2 c_2 r3 (Z0 (f.Plots.length:Int)) 2 w hM.pass (by (try have kc_:=XY hr1 h1);(try have vw:r2.length=3:=Zj hr2);(try have xz:r4.length≤9:=Nat.le_of_eq (Zj hr4));(try have vz:=Zj hr3);(try have xz:=Zj hr4);(try have v8:=Zj hr5);(try have ka:=Zj hr6);(try have kb:=Zj hr7);(try have kd:=Zj hr8);(try have ke:=Zj hr9);(try have jq:=Zj zl);(try have jr:=Zj zo);(try have js:=Zj z8);(try have jt:=Zj xa);exact sg) (by (try have kc_:=XY hr1 h1);(try have vw:r2.length=3:=Zj hr2);(try have xz:r4.length≤9:=Nat.le_of_eq (Zj hr4));(try have vz:=Zj hr3);(try have xz:=Zj hr4);(try have v8:=Zj hr5);(try have ka:=Zj hr6);(try have kb:=Zj hr7);(try have kd:=Zj hr8);(try have ke:=Zj hr9);(try have jq:=Zj zl);(try have jr:=Zj zo);(try have js:=Zj z8);(try have jt:=Zj xa);exact sg)) Kr (fun g=>Kr) ?_)))
  rintro⟨r4,A_3,c_3⟩
  refine YS [.inr (XG (r4=r3++be (Z0 (f.Plots.length:Int)) (2:Int).toNat)),Ow A_3 c_3 5 1 (r4.map ic8),Bk b1 #[.i f.Radar,.i f.Time,.slice A_f_Plots f.Plots.length qs] 36] (fun _ hM=>hM) (Y2 (fun w hM=>hM.fact_at 0 rfl) (fun jh=>YK [Ow A_3 c_3 5 1 (r4.map ic8),Bk b1 #[.i f.Radar,.i f.Time,.slice A_f_Plots f.Plots.length qs] 36] (.cons _ (aA _)) ?_))
  have hr4:r3++be (Z0 (f.Plots.length:Int)) (2:Int).toNat=r4:=(jh).symm
  refine Zc 7 [] [(5,.slice A_3 r4.length c_3)] {} (Zz (Ze (Zc 4 [1] [(33,.slice A_f_Plots f.Plots.length qs),(34,.i (f.Plots.length:Int)),(35,.i 0)] {} (Zb rfl ?_))))
  obtain⟨R1,hR⟩:∃ R,R=XA f.Plots 0 r4:=⟨_,rfl⟩
  refine TC.cut (S:=(List Int)×(Option Addr)×Nat) (fun (zu,A_b__2,zx)=>[(5,.slice A_b__2 zu.length zx)]) (fun (zu,A_b__2,zx)=>[Ow A_b__2 zx 5 1 (zu.map ic8)]) (fun (zu,A_b__2,zx)=>R1=zu∧zu.length≤r4.length+16*f.Plots.length) ?_ ?_
  ·refine TC.block (XB (X:=Nat×(List Int)×(Option Addr)×Nat) (fun (k,b_,A_b_,vj)=>[(5,.slice A_b_ b_.length vj),(33,.slice A_f_Plots f.Plots.length qs),(34,.i (f.Plots.length:Int)),(35,.i (k:Int))]) (fun (k,b_,A_b_,vj)=>[Ow A_b_ vj 5 1 (b_.map ic8)]) (fun (k,b_,A_b_,vj)=>f.Plots.length-k) (fun (k,b_,A_b_,vj)=>k≤f.Plots.length∧R1=XA (f.Plots.drop k) k b_∧b_.length≤r4.length+16*k) ?_ (0,r4,A_3,c_3) ⟨aN _,hR,sz⟩ Kr (sb 1))
   rintro⟨k,b_,A_b_,vj⟩ ⟨hk,hI,oa⟩
   refine Ze (Zc 1 [] [(36,.b (decide ((k:Int)<(f.Plots.length:Int))))] {} (Zz (TC.cond (decide ((k:Int)<(f.Plots.length:Int))) rfl Kr (fun h2=>?_) (fun h2=>?_))))
   ·have hlt:=ltN h2
    obtain⟨x,hx⟩:=elN hlt
    have hd:=drop_at hx
    refine Yg (TC.seq (TC.block (Ze (TL.v (sV (Instr.indexAt 28 (.slice A_f_Plots f.Plots.length qs) (.i (k:Int)))) 37 (.pointer (some (Ix A_f_Plots (k*6)))) (fun w hM=>Zy (jo.sat hM) (by simp) Kr (by (try have kc_:=XY hr1 h1);(try have vw:r2.length=3:=Zj hr2);(try have xz:r4.length≤9:=Nat.le_of_eq (Zj hr4));(try have vz:=Zj hr3);(try have xz:=Zj hr4);(try have v8:=Zj hr5);(try have ka:=Zj hr6);(try have kb:=Zj hr7);(try have kd:=Zj hr8);(try have ke:=Zj hr9);(try have jq:=Zj zl);(try have jr:=Zj zo);(try have js:=Zj z8);(try have jt:=Zj xa);exact sd) (by (try have kc_:=XY hr1 h1);(try have vw:r2.length=3:=Zj hr2);(try have xz:r4.length≤9:=Nat.le_of_eq (Zj hr4));(try have vz:=Zj hr3);(try have xz:=Zj hr4);(try have v8:=Zj hr5);(try have ka:=Zj hr6);(try have kb:=Zj hr7);(try have kd:=Zj hr8);(try have ke:=Zj hr9);(try have jq:=Zj zl);(try have jr:=Zj zo);(try have js:=Zj z8);(try have jt:=Zj xa);exact sd)) {} (TL.v (sV (Instr.loadAt 40 (.pointer (some (Ix A_f_Plots (k*6)))))) 38 (Zr.v x) (fun w hM=>Yd (n:=6) (off:=0) (i:=k) (Zr.v x) (jo.sat hM) (ZR hx) Kr Kr Kr) {} (ZH 7 (fun b3=>.p0 b3) (fun b3=>Bk b3 (Zr.c Zr.zero) 40) (fun b3=>{}) (fun b3=>Ym 0 (Bk b3 (Zr.c x) 40) (fun _=>{}) (Zv (Zc 2 [0] [(41,.i x.Range)] {} (TL.c 42 (YJ x.Range 0) (fun r5=>.tuple #[.int .u64 r5.1,.i r5.2]) (fun w _=>H3 x.Range 0 w) {} (fun r5 hr5=>Zc 8 [] [(8,.int .u64 r5.1)] {} (Zv (Zc 2 [] [(45,.slice A_b_ b_.length vj),(46,.int .u64 r5.1)] {} (YS [Ow A_b_ vj 5 1 (b_.map ic8),Bk b3 (Zr.c x) 40] (fun _ hM=>hM.perm (px [1,0])) (Xx (Γ:=(List Int)×(Option Addr)×Nat) (fun g=>.slice g.2.1 g.1.length g.2.2) (fun g=>[.inr (XG (g.1=b_++be r5.1 (8:Int).toNat)),Ow g.2.1 g.2.2 5 1 (g.1.map ic8)]) [Ow A_b_ vj 5 1 (b_.map ic8)] [Bk b3 (Zr.c x) 40] (some 47) (fun g=>[(7,.p0 b3),(33,.slice A_f_Plots f.Plots.length qs),(34,.i (f.Plots.length:Int)),(35,.i (k:Int)),(47,.slice g.2.1 g.1.length g.2.2)]) (fun w hM=>WG A_b_ vj b_ r5.1 8 w hM.pass (by (try have kc_:=XY hr1 h1);(try have vw:r2.length=3:=Zj hr2);(try have xz:r4.length≤9:=Nat.le_of_eq (Zj hr4));(try have vz:=Zj hr3);(try have xz:=Zj hr4);(try have v8:=Zj hr5);(try have ka:=Zj hr6);(try have kb:=Zj hr7);(try have kd:=Zj hr8);(try have ke:=Zj hr9);(try have jq:=Zj zl);(try have jr:=Zj zo);(try have js:=Zj z8);(try have jt:=Zj xa);exact sg) (by (try have kc_:=XY hr1 h1);(try have vw:r2.length=3:=Zj hr2);(try have xz:r4.length≤9:=Nat.le_of_eq (Zj hr4));(try have vz:=Zj hr3);(try have xz:=Zj hr4);(try have v8:=Zj hr5);(try have ka:=Zj hr6);(try have kb:=Zj hr7);(try have kd:=Zj hr8);(try have ke:=Zj hr9);(try have jq:=Zj zl);(try have jr:=Zj zo);(try have js:=Zj z8);(try have jt:=Zj xa);exact sg)) Kr (fun g=>Kr) ?_)))))))))))))))
    rintro⟨r6,A_4,c_4⟩
    refine YS [.inr (XG (r6=b_++be r5.1 (8:Int).toNat)),Ow A_4 c_4 5 1 (r6.map ic8),Bk b3 (Zr.c x) 40] (fun _ hM=>hM) (Y2 (fun w hM=>hM.fact_at 0 rfl) (fun jh=>YK [Ow A_4 c_4 5 1 (r6.map ic8),Bk b3 (Zr.c x) 40] (.cons _ (aA _)) ?_))
    have hr6:b_++be r5.1 (8:Int).toNat=r6:=(jh).symm
    refine Zc 4 [] [(5,.slice A_4 r6.length c_4)] {} (Zv (Zc 4 [1] [(48,.slice A_4 r6.length c_4),(51,.int .u64 (Z0 x.Azimuth))] {} (Xx (Γ:=(List Int)×(Option Addr)×Nat) (fun g=>.slice g.2.1 g.1.length g.2.2) (fun g=>[.inr (XG (g.1=r6++be (Z0 x.Azimuth) (2:Int).toNat)),Ow g.2.1 g.2.2 5 1 (g.1.map ic8)]) [Ow A_4 c_4 5 1 (r6.map ic8)] [Bk b3 (Zr.c x) 40] (some 52) (fun g=>[(7,.p0 b3),(33,.slice A_f_Plots f.Plots.length qs),(34,.i (f.Plots.length:Int)),(35,.i (k:Int)),(52,.slice g.2.1 g.1.length g.2.2)]) (fun w hM=>WG A_4 c_4 r6 (Z0 x.Azimuth) 2 w hM.pass (by (try have kc_:=XY hr1 h1);(try have vw:r2.length=3:=Zj hr2);(try have xz:r4.length≤9:=Nat.le_of_eq (Zj hr4));(try have vz:=Zj hr3);(try have xz:=Zj hr4);(try have v8:=Zj hr5);(try have ka:=Zj hr6);(try have kb:=Zj hr7);(try have kd:=Zj hr8);(try have ke:=Zj hr9);(try have jq:=Zj zl);(try have jr:=Zj zo);(try have js:=Zj z8);(try have jt:=Zj xa);exact sg) (by (try have kc_:=XY hr1 h1);(try have vw:r2.length=3:=Zj hr2);(try have xz:r4.length≤9:=Nat.le_of_eq (Zj hr4));(try have vz:=Zj hr3);(try have xz:=Zj hr4);(try have v8:=Zj hr5);(try have ka:=Zj hr6);(try have kb:=Zj hr7);(try have kd:=Zj hr8);(try have ke:=Zj hr9);(try have jq:=Zj zl);(try have jr:=Zj zo);(try have js:=Zj z8);(try have jt:=Zj xa);exact sg)) Kr (fun g=>Kr) ?_)))
    rintro⟨r7,A_5,c_5⟩
    refine YS [.inr (XG (r7=r6++be (Z0 x.Azimuth) (2:Int).toNat)),Ow A_5 c_5 5 1 (r7.map ic8),Bk b3 (Zr.c x) 40] (fun _ hM=>hM) (Y2 (fun w hM=>hM.fact_at 0 rfl) (fun jh=>YK [Ow A_5 c_5 5 1 (r7.map ic8),Bk b3 (Zr.c x) 40] (.cons _ (aA _)) ?_))
    have hr7:r6++be (Z0 x.Azimuth) (2:Int).toNat=r7:=(jh).symm
    refine Zc 6 [] [(5,.slice A_5 r7.length c_5)] {} (Zv (Zc 4 [1] [(53,.slice A_5 r7.length c_5),(56,.int .u64 (Z0 x.Height))] {} (Xx (Γ:=(List Int)×(Option Addr)×Nat) (fun g=>.slice g.2.1 g.1.length g.2.2) (fun g=>[.inr (XG (g.1=r7++be (Z0 x.Height) (4:Int).toNat)),Ow g.2.1 g.2.2 5 1 (g.1.map ic8)]) [Ow A_5 c_5 5 1 (r7.map ic8)] [Bk b3 (Zr.c x) 40] (some 57) (fun g=>[(7,.p0 b3),(33,.slice A_f_Plots f.Plots.length qs),(34,.i (f.Plots.length:Int)),(35,.i (k:Int)),(57,.slice g.2.1 g.1.length g.2.2)]) (fun w hM=>WG A_5 c_5 r7 (Z0 x.Height) 4 w hM.pass (by (try have kc_:=XY hr1 h1);(try have vw:r2.length=3:=Zj hr2);(try have xz:r4.length≤9:=Nat.le_of_eq (Zj hr4));(try have vz:=Zj hr3);(try have xz:=Zj hr4);(try have v8:=Zj hr5);(try have ka:=Zj hr6);(try have kb:=Zj hr7);(try have kd:=Zj hr8);(try have ke:=Zj hr9);(try have jq:=Zj zl);(try have jr:=Zj zo);(try have js:=Zj z8);(try have jt:=Zj xa);exact sg) (by (try have kc_:=XY hr1 h1);(try have vw:r2.length=3:=Zj hr2);(try have xz:r4.length≤9:=Nat.le_of_eq (Zj hr4));(try have vz:=Zj hr3);(try have xz:=Zj hr4);(try have v8:=Zj hr5);(try have ka:=Zj hr6);(try have kb:=Zj hr7);(try have kd:=Zj hr8);(try have ke:=Zj hr9);(try have jq:=Zj zl);(try have jr:=Zj zo);(try have js:=Zj z8);(try have jt:=Zj xa);exact sg)) Kr (fun g=>Kr) ?_)))
    rintro⟨r8,A_6,c_6⟩
    refine YS [.inr (XG (r8=r7++be (Z0 x.Height) (4:Int).toNat)),Ow A_6 c_6 5 1 (r8.map ic8),Bk b3 (Zr.c x) 40] (fun _ hM=>hM) (Y2 (fun w hM=>hM.fact_at 0 rfl) (fun jh=>YK [Ow A_6 c_6 5 1 (r8.map ic8),Bk b3 (Zr.c x) 40] (.cons _ (aA _)) ?_))
    have hr8:r7++be (Z0 x.Height) (4:Int).toNat=r8:=(jh).symm
    refine Zc 6 [] [(5,.slice A_6 r8.length c_6)] {} (Zb rfl (TC.region (Zc 5 [1] [(58,.slice A_6 r8.length c_6),(62,.int .u64 (Z0 (w64 (x.Code+1))))] {} (Xx (Γ:=(List Int)×(Option Addr)×Nat) (fun g=>.slice g.2.1 g.1.length g.2.2) (fun g=>[.inr (XG (g.1=r8++be (Z0 (w64 (x.Code+1))) (2:Int).toNat)),Ow g.2.1 g.2.2 5 1 (g.1.map ic8)]) [Ow A_6 c_6 5 1 (r8.map ic8)] [Bk b3 (Zr.c x) 40] (some 63) (fun g=>[(33,.slice A_f_Plots f.Plots.length qs),(34,.i (f.Plots.length:Int)),(35,.i (k:Int)),(63,.slice g.2.1 g.1.length g.2.2)]) (fun w hM=>WG A_6 c_6 r8 (Z0 (w64 (x.Code+1))) 2 w hM.pass (by (try have kc_:=XY hr1 h1);(try have vw:r2.length=3:=Zj hr2);(try have xz:r4.length≤9:=Nat.le_of_eq (Zj hr4));(try have vz:=Zj hr3);(try have xz:=Zj hr4);(try have v8:=Zj hr5);(try have ka:=Zj hr6);(try have kb:=Zj hr7);(try have kd:=Zj hr8);(try have ke:=Zj hr9);(try have jq:=Zj zl);(try have jr:=Zj zo);(try have js:=Zj z8);(try have jt:=Zj xa);exact sg) (by (try have kc_:=XY hr1 h1);(try have vw:r2.length=3:=Zj hr2);(try have xz:r4.length≤9:=Nat.le_of_eq (Zj hr4));(try have vz:=Zj hr3);(try have xz:=Zj hr4);(try have v8:=Zj hr5);(try have ka:=Zj hr6);(try have kb:=Zj hr7);(try have kd:=Zj hr8);(try have ke:=Zj hr9);(try have jq:=Zj zl);(try have jr:=Zj zo);(try have js:=Zj z8);(try have jt:=Zj xa);exact sg)) Kr (fun g=>Kr) ?_))))
    rintro⟨r9,A_7,c_7⟩
    refine YS [.inr (XG (r9=r8++be (Z0 (w64 (x.Code+1))) (2:Int).toNat)),Ow A_7 c_7 5 1 (r9.map ic8),Bk b3 (Zr.c x) 40] (fun _ hM=>hM) (Y2 (fun w hM=>hM.fact_at 0 rfl) (fun jh=>YK [Ow A_7 c_7 5 1 (r9.map ic8),Bk b3 (Zr.c x) 40] (.cons _ (aA _)) ?_))
    have hr9:r8++be (Z0 (w64 (x.Code+1))) (2:Int).toNat=r9:=(jh).symm
    exact Zc 7 [] [(5,.slice A_7 r9.length c_7)] {} (Z2 rfl (Yr (Z4 (TC.region (Zc 2 [] [(35,.i (w64 ((k:Int)+1)))] {} (Z2 rfl (TE.rw 35 (.i (w64 ((k:Int)+1))) (.i ((k+1:Nat):Int)) Kr (ZT k (by (try have kc_:=XY hr1 h1);(try have vw:r2.length=3:=Zj hr2);(try have xz:r4.length≤9:=Nat.le_of_eq (Zj hr4));(try have vz:=Zj hr3);(try have xz:=Zj hr4);(try have v8:=Zj hr5);(try have ka:=Zj hr6);(try have kb:=Zj hr7);(try have kd:=Zj hr8);(try have ke:=Zj hr9);(try have jq:=Zj zl);(try have jr:=Zj zo);(try have js:=Zj z8);(try have jt:=Zj xa);omega)) (Z7 (x:=(k,b_,A_b_,vj)) (k+1,r9,A_7,c_7) ⟨by omega,hI.trans (by subst hr1 hr2 hr3 hr4 hr5 hr6 hr7 hr8 hr9;rw[hd];exact rfl),(by (try have kc_:=XY hr1 h1);(try have vw:r2.length=3:=Zj hr2);(try have xz:r4.length≤9:=Nat.le_of_eq (Zj hr4));(try have vz:=Zj hr3);(try have xz:=Zj hr4);(try have v8:=Zj hr5);(try have ka:=Zj hr6);(try have kb:=Zj hr7);(try have kd:=Zj hr8);(try have ke:=Zj hr9);(try have jq:=Zj zl);(try have jr:=Zj zo);(try have js:=Zj z8);(try have jt:=Zj xa);exact sl)⟩ (mN hlt) Kr (sb 1)))))))))
   ·have hd:=QE h2
    refine TC.exit (Yc (Yc (Z1 ?_)))
    exact TE.cut (b_,A_b_,vj) (⟨hI.trans (by subst hr1 hr2 hr3 hr4;rw[hd];exact rfl),(by (try have kc_:=XY hr1 h1);(try have vw:r2.length=3:=Zj hr2);(try have xz:r4.length≤9:=Nat.le_of_eq (Zj hr4));(try have vz:=Zj hr3);(try have xz:=Zj hr4);(try have v8:=Zj hr5);(try have ka:=Zj hr6);(try have kb:=Zj hr7);(try have kd:=Zj hr8);(try have ke:=Zj hr9);(try have jq:=Zj zl);(try have jr:=Zj zo);(try have js:=Zj z8);(try have jt:=Zj xa);exact sl)⟩) Kr (sb 1)
  ·rintro⟨zu,A_b__2,zx⟩ ⟨hJ,ba⟩
   refine YZ (Zc 2 [] [(65,.slice A_b__2 zu.length zx),(66,.slice A_b__2 zu.length zx)] {} (TL.v (sV (convert 27 9 (.slice A_b__2 zu.length zx))) 67 (.string (strOf zu)) (fun w hM=>Ws (e:=5) Kr Kr Kr (hM.rd_at 0 rfl) (by rfl)) {} (TL.c 68 (QR (strOf zu)) (fun r10=>.i r10) (fun w _=>D3 (strOf zu) w (by (try have kc_:=XY hr1 h1);(try have vw:r2.length=3:=Zj hr2);(try have xz:r4.length≤9:=Nat.le_of_eq (Zj hr4));(try have vz:=Zj hr3);(try have xz:=Zj hr4);(try have v8:=Zj hr5);(try have ka:=Zj hr6);(try have kb:=Zj hr7);(try have kd:=Zj hr8);(try have ke:=Zj hr9);(try have jq:=Zj zl);(try have jr:=Zj zo);(try have js:=Zj z8);(try have jt:=Zj xa);rw[ZS];omega)) {} (fun r10 zl=>Zc 5 [] [(69,.int .u64 (Z0 r10))] {} (Xx (Γ:=(List Int)×(Option Addr)×Nat) (fun g=>.slice g.2.1 g.1.length g.2.2) (fun g=>[.inr (XG (g.1=zu++be (Z0 r10) (2:Int).toNat)),Ow g.2.1 g.2.2 5 1 (g.1.map ic8)]) [Ow A_b__2 zx 5 1 (zu.map ic8)] [] (some 70) (fun g=>[(70,.slice g.2.1 g.1.length g.2.2)]) (fun w hM=>WG A_b__2 zx zu (Z0 r10) 2 w hM.pass (by (try have kc_:=XY hr1 h1);(try have vw:r2.length=3:=Zj hr2);(try have xz:r4.length≤9:=Nat.le_of_eq (Zj hr4));(try have vz:=Zj hr3);(try have xz:=Zj hr4);(try have v8:=Zj hr5);(try have ka:=Zj hr6);(try have kb:=Zj hr7);(try have kd:=Zj hr8);(try have ke:=Zj hr9);(try have jq:=Zj zl);(try have jr:=Zj zo);(try have js:=Zj z8);(try have jt:=Zj xa);exact sg) (by (try have kc_:=XY hr1 h1);(try have vw:r2.length=3:=Zj hr2);(try have xz:r4.length≤9:=Nat.le_of_eq (Zj hr4));(try have vz:=Zj hr3);(try have xz:=Zj hr4);(try have v8:=Zj hr5);(try have ka:=Zj hr6);(try have kb:=Zj hr7);(try have kd:=Zj hr8);(try have ke:=Zj hr9);(try have jq:=Zj zl);(try have jr:=Zj zo);(try have js:=Zj z8);(try have jt:=Zj xa);exact sg)) Kr (fun g=>Kr) ?_)))))
   rintro⟨r11,A_8,c_8⟩
   refine YS [.inr (XG (r11=zu++be (Z0 r10) (2:Int).toNat)),Ow A_8 c_8 5 1 (r11.map ic8)] (fun _ hM=>hM) (Y2 (fun w hM=>hM.fact_at 0 rfl) (fun jh=>YK [Ow A_8 c_8 5 1 (r11.map ic8)] (.cons _ (aA _)) ?_))
   have zo:zu++be (Z0 r10) (2:Int).toNat=r11:=(jh).symm
   exact TL.v (sV (convert 27 9 (.slice A_8 r11.length c_8))) 71 (.string (strOf r11)) (fun w hM=>Ws (e:=5) Kr Kr Kr (hM.rd_at 0 rfl) (by rfl)) {} (Zc 9 [] [(2,.string (strOf r11)),(3,.i 0)] {} (Zb rfl (TC.ret (TE.ret [] (.tuple #[.string (strOf r11),.i 0]) {} (by unfold YF;refine eS (a:=(strOf r11,0)) (fun (z:ByteArray×Int)=>(.tuple #[.string z.1,.i z.2]:Value)) ?_;subst hr1 hr2 hr3 hr4 zl zo;exact Zd h1 (Y5 (hR.symm.trans hJ) (rfl)))))))
end Go.Sky
end
