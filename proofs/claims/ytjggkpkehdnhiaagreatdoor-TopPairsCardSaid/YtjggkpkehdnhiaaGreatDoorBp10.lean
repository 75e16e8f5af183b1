/- Lemmas toward the given statement (part 10 of 20): Ta TFlA TFol TAsg TLive TScan THit TGap Flt Strs FltB Flo. Each theorem states its own conditions; nothing is assumed beyond them. -/
import Derived.Test.YtjggkpkehdnhiaaGreatDoorBp09
import Derived.Test.YtjggkpkehdnhiaaGreatDoorBp03
import Derived.Test.YtjggkpkehdnhiaaGreatDoorBp05
import Derived.Test.YtjggkpkehdnhiaaGreatDoorBp08
import Derived.Test.YtjggkpkehdnhiaaGreatDoorBp02
import Derived.Laws.Externs
import Derived.Laws.BytesString
import Derived.Laws.Cells
import Derived.Laws.FloatBits
import Derived.Laws.FloatArith
set_option maxRecDepth 100000
section
namespace Go.Sky
open Go Go.Eng Go.Proofs
def Yq (n:Int) (low:Int) (high:Int):Int :=
 w64 (low+((w64 ((n.tmod (w64 ((w64 (high-low))+1)))+(w64 ((w64 (high-low))+1)))).tmod (w64 ((w64 (high-low))+1))))
theorem SD {n low high r:Int} (hr:Yq n low high=r) (h:low≤high) (h1:-1000000000000≤low) (h2:high≤1000000000000) :
  r=low+(n.tmod (high-low+1)+(high-low+1)).tmod (high-low+1)∧low≤r∧r≤high:=by
 subst hr
 unfold Yq
 have s:w64 ((w64 (high-low))+1)=high-low+1:=by rw[Zt (x:=high-low) (by omega),Zt (by omega)]
 simp only[s]
 have t1:=gK n (show 0<high-low+1 by omega)
 have t2:=Int.lt_tmod_of_pos n (show 0<high-low+1 by omega)
 rw[Zt (x:=n.tmod (high-low+1)+(high-low+1)) (by omega)]
 have t3:=gK (n.tmod (high-low+1)+(high-low+1)) (show 0<high-low+1 by omega)
 have t4:=Int.tmod_nonneg (high-low+1) (show 0≤n.tmod (high-low+1)+(high-low+1) by omega)
 rw[Zt (by omega)]
 omega
theorem UH {n low high r:Int} (hr:Yq n low high=r) (h:low≤high) (h1:-1000000000000≤low) (h2:high≤1000000000000):low≤r∧r≤high:=(SD hr h h1 h2).2
theorem Jj (n:Int) (low:Int) (high:Int) (w:World) (hs:w64 ((w64 (high-low))+1)≠0):Calls Tryz.prog 13 #[.int .i64 n,.int .i64 low,.int .i64 high] w (Ret w (.int .i64 (Yq n low high))):=by
 exact Zp (vs:=[.i n,.i low,.i high]) (w:=w) Tryz.func13 rfl Tryz.ntmps13 rfl (Zf (Zc 1 [] [(6,.i 0)] {} (Zz (Zc 5 [] [(7,.i (w64 ((w64 (high-low))+1)))] {} (Zz (Zc 3 [] [(12,.i low),(13,.i n),(14,.i (w64 ((w64 (high-low))+1)))] {} (TL.v (sV (binOp .rem 3 (.i n) (.i (w64 ((w64 (high-low))+1))))) 15 (.i (n.tmod (w64 ((w64 (high-low))+1)))) (fun w hM=>Bq sdr) {} (Zc 7 [] [(17,.i (w64 ((n.tmod (w64 ((w64 (high-low))+1)))+(w64 ((w64 (high-low))+1))))),(18,.i (w64 ((w64 (high-low))+1)))] {} (TL.v (sV (binOp .rem 3 (.i (w64 ((n.tmod (w64 ((w64 (high-low))+1)))+(w64 ((w64 (high-low))+1))))) (.i (w64 ((w64 (high-low))+1))))) 19 (.i ((w64 ((n.tmod (w64 ((w64 (high-low))+1)))+(w64 ((w64 (high-low))+1)))).tmod (w64 ((w64 (high-low))+1)))) (fun w hM=>Bq sdr) {} (Zc 10 [] [(6,.i (w64 (low+((w64 ((n.tmod (w64 ((w64 (high-low))+1)))+(w64 ((w64 (high-low))+1)))).tmod (w64 ((w64 (high-low))+1))))))] {} (Zb rfl (TC.ret (TE.ret [] (.i (w64 (low+((w64 ((n.tmod (w64 ((w64 (high-low))+1)))+(w64 ((w64 (high-low))+1)))).tmod (w64 ((w64 (high-low))+1)))))) {} (by unfold Yq;refine eS (fun z=>(.i z:Value)) ?_;exact rfl))))))))))))))
def K6 (a:P) (b_:P):Int :=
 w64 ((w64 ((w64 (a.X-b_.X))*(w64 (a.X-b_.X))))+(w64 ((w64 (a.Y-b_.Y))*(w64 (a.Y-b_.Y)))))
theorem Wb (a:P) (b_:P) (w:World):Calls Tryz.prog 25 #[P.v a,P.v b_] w (Ret w (.int .i64 (K6 a b_))):=by
 exact Zp (vs:=[P.v a,P.v b_]) (w:=w) Tryz.func25 rfl Tryz.ntmps25 rfl (Zf (ZA 2 (fun b1=>.p0 b1) (fun b1=>Bk b1 (P.c a) 36) (fun b1=>{}) (fun b1=>ZA 3 (fun b2=>.p0 b2) (fun b2=>Bk b2 (P.c b_) 36) (fun b2=>{}) (fun b2=>Zc 3 [] [(4,.i 0)] {} (Zz (Zc 24 [1,0,1,0,1,0,1,0] [(4,.i (w64 ((w64 ((w64 (a.X-b_.X))*(w64 (a.X-b_.X))))+(w64 ((w64 (a.Y-b_.Y))*(w64 (a.Y-b_.Y)))))))] {} (Zb rfl (TC.ret (TE.ret [] (.i (w64 ((w64 ((w64 (a.X-b_.X))*(w64 (a.X-b_.X))))+(w64 ((w64 (a.Y-b_.Y))*(w64 (a.Y-b_.Y))))))) {} (by unfold K6;refine eS (fun z=>(.i z:Value)) ?_;exact rfl))))))))))
def Yh:ZB :=
 (⟨2,3,4,1,160,128⟩:ZB)
theorem Ub (w:World):Calls Tryz.prog 44 #[] w (Ret w (ZB.v (Yh))):=by
 exact Zp (vs:=[]) (w:=w) Tryz.func44 rfl Tryz.ntmps44 rfl (Zf (ZA 0 (fun b1=>.p0 b1) (fun b1=>Bk b1 (ZB.c ZB.zero) 114) (fun b1=>{}) (fun b1=>Zz (Zc 1 [] [(1,ZB.v (⟨2,3,4,1,160,128⟩:ZB))] {} (Yp 0 (Bk b1 (ZB.c (⟨2,3,4,1,160,128⟩:ZB)) 114) (fun _=>{}) (Zb rfl (TC.ret (TE.ret [0] (ZB.v (⟨2,3,4,1,160,128⟩:ZB)) {} (by unfold Yh;refine eS (fun z=>(ZB.v z:Value)) ?_;exact rfl)))))))))
def Ya:List Zn :=
 [(⟨1,⟨(-20000),0⟩,400000,50,2⟩:Zn),(⟨2,⟨30000,40000⟩,400000,80,3⟩:Zn)]
theorem Wc (w:World):Calls Tryz.prog 22 #[] w (JH (Γ:=(Option Addr×Nat)) (cx w) (fun g=>.slice g.1 ((Ya).length) g.2) (fun g=>[.inr (Own g.1 g.2 85 6 ((Ya).map Zn.c))])):=by
 refine Zp (vs:=[]) (w:=w) Tryz.func22 rfl Tryz.ntmps22 rfl (Zf (Zc 1 [] [(0,.slice none 0 0)] {} (Zz (Zc 4 [] [(2,Zn.v (⟨1,⟨(-20000),0⟩,400000,50,2⟩:Zn)),(4,Zn.v (⟨2,⟨30000,40000⟩,400000,80,3⟩:Zn))] {} (ZA 5 (fun b1=>.slice (Pa b1) 2 2) (fun b1=>Bk b1 #[.i 1,.i (-20000),.i 0,.i 400000,.i 50,.i 2,.i 2,.i 30000,.i 40000,.i 400000,.i 80,.i 3] 85) (fun b1=>{}) (fun b1=>Zc 6 [] [(0,.slice (Pa b1) 2 2)] {} (Zb rfl (TC.ret ?_))))))))
 have e:Ya=([(⟨1,⟨(-20000),0⟩,400000,50,2⟩:Zn),(⟨2,⟨30000,40000⟩,400000,80,3⟩:Zn)]):=by unfold Ya;exact rfl
 refine Yi [Ow (Pa b1) 2 85 6 (([(⟨1,⟨(-20000),0⟩,400000,50,2⟩:Zn),(⟨2,⟨30000,40000⟩,400000,80,3⟩:Zn)]:List Zn).map Zn.c)] (fun _ hM=>by exact hM.litrow 0 (([(⟨1,⟨(-20000),0⟩,400000,50,2⟩:Zn),(⟨2,⟨30000,40000⟩,400000,80,3⟩:Zn)]:List Zn).map Zn.c) rfl Kr Kr Kr Kr) ?_
 rw[e]
 exact ZO (.inl rfl) ((Pa b1),2) [] (.slice (Pa b1) 2 2) {} rfl (fun _ hM=>hM.sub (sb 1))
def Y1 (f:Zq) (time:Int):P :=
 (⟨w64 (f.at_.X+(w64 (f.speed.X*time))),w64 (f.at_.Y+(w64 (f.speed.Y*time)))⟩:P)
theorem KR (f:Zq) (time:Int) (w:World):Calls Tryz.prog 16 #[Zq.v f,.int .i64 time] w (Ret w (P.v (Y1 f time))):=by
 exact Zp (vs:=[Zq.v f,.i time]) (w:=w) Tryz.func16 rfl Tryz.ntmps16 rfl (Zf (ZA 2 (fun b1=>.p0 b1) (fun b1=>Bk b1 (Zq.c f) 38) (fun b1=>{}) (fun b1=>ZA 4 (fun b2=>.p0 b2) (fun b2=>Bk b2 (P.c P.zero) 36) (fun b2=>{}) (fun b2=>Zz (Zc 19 [1,1,1,1] [(23,P.v (⟨w64 (f.at_.X+(w64 (f.speed.X*time))),w64 (f.at_.Y+(w64 (f.speed.Y*time)))⟩:P))] {} (Yp 0 (Bk b2 (P.c (⟨w64 (f.at_.X+(w64 (f.speed.X*time))),w64 (f.at_.Y+(w64 (f.speed.Y*time)))⟩:P)) 36) (fun _=>{}) (Zb rfl (TC.ret (TE.ret [0] (P.v (⟨w64 (f.at_.X+(w64 (f.speed.X*time))),w64 (f.at_.Y+(w64 (f.speed.Y*time)))⟩:P)) {} (by unfold Y1;refine eS (fun z=>(P.v z:Value)) ?_;exact rfl))))))))))
def YA (l:List Int):Nat→Nat→(List Zq)→(List Zq)
 | 0,_,out=>out
 | m+1,k,out=>let r1:=Yq (l[(4*k)]?.getD 0) 0 5000
  let r2:=Yq (l[(w64 (((4*k:Nat):Int)+1)).toNat]?.getD 0) (-20000) 20000
  let r3:=Yq (l[(w64 (((4*k:Nat):Int)+2)).toNat]?.getD 0) (-100) 100
  let r4:=Yq (l[(w64 (((4*k:Nat):Int)+3)).toNat]?.getD 0) (-200) 200
  YA l m (k+1) (out++([(⟨⟨w64 ((w64 ((-60000)+(w64 (60000*(w64 (((4*k:Nat):Int).tdiv 4))))))+r1),r2⟩,⟨r3,r4⟩,w64 (5000+(w64 (3000*(w64 (((4*k:Nat):Int).tdiv 4))))),w64 (100+((4*k:Nat):Int))⟩:Zq)]))
def Xk (l:List Int):List Zq :=
 YB (YA l (min (l.length/4) 3) 0 ([]:List Zq)) (fun qk =>
  qk)
theorem G3 (A_l:Option Addr) (c_l:Nat) (l:List Int) (w:World) (h_l:Rd w 1 A_l (l.map ic)) (_hc_l:l.length≤c_l):Calls Tryz.prog 9 #[.slice A_l l.length c_l] w (JH (Γ:=(Option Addr×Nat)) (cx w) (fun g=>.slice g.1 ((Xk l).length) g.2) (fun g=>[.inr (Own g.1 g.2 38 6 ((Xk l).map Zq.c))])):=by
 have s_l:=h_l.short;rw[aD] at s_l
 refine Zp (vs:=[.slice A_l l.length c_l]) (w:=w) Tryz.func9 rfl Tryz.ntmps9 rfl (Zf (Zc 1 [] [(2,.slice none 0 0)] {} (Zz (Zc 1 [] [(3,.slice none 0 0)] {} (Z1 (Zf (Zc 1 [] [(4,.i 0)] {} (Zb rfl (Q0 [Ow none 0 38 6 (([]:List Zq).map Zq.c)] (fun _ hM=>hM.emptyrow none 38 6) ?_)))))))))
 obtain⟨R2,hR⟩:∃ R,R=YA l (min (l.length/4) 3) 0 ([]:List Zq):=⟨_,rfl⟩
 refine TC.cut (S:=(List Zq)×(Option Addr)×Nat) (fun (qk,A_out_2,qe)=>[(3,.slice A_out_2 qk.length qe)]) (fun (qk,A_out_2,qe)=>[Ow A_out_2 qe 38 6 (qk.map Zq.c)]) (fun (qk,A_out_2,qe)=>R2=qk∧qk.length≤(min (l.length/4) 3)) ?_ ?_
 ·refine TC.block (Xp (X:=Nat×(List Zq)×(Option Addr)×Nat) (fun (k,out,A_out,qh)=>[(0,.slice A_l l.length c_l),(3,.slice A_out out.length qh),(4,.i ((4*k:Nat):Int))]) (fun (k,out,A_out,qh)=>[Ow A_out qh 38 6 (out.map Zq.c)]) (fun (k,out,A_out,qh)=>(min (l.length/4) 3)-k) (fun (k,out,A_out,qh)=>k≤(min (l.length/4) 3)∧R2=YA l ((min (l.length/4) 3)-k) k out∧out.length≤k) ?_ (0,([]:List Zq),none,0) ⟨aP _,hR,sz⟩ Kr (sb 1))
  rintro⟨k,out,A_out,qh⟩ ⟨hk,hI,kn⟩
  refine TC.seq (Zf (Zc 6 [] [(10,.b (decide ((w64 (((4*k:Nat):Int)+3))<(l.length:Int))))] {} (XM 10 (decide ((w64 (((4*k:Nat):Int)+3))<(l.length:Int))) 9 [] [] (fun β=>[(13,.b (β&&(decide (((4*k:Nat):Int)<12))))]) Kr {} {} (Zb rfl (TC.cond ((decide ((w64 (((4*k:Nat):Int)+3))<(l.length:Int)))&&(decide (((4*k:Nat):Int)<12))) rfl Kr (fun h1=>?_) (fun h1=>?_))))))
  ·have hlt:k<(min (l.length/4) 3):=by have p0_:=(ZF (Js h1));have p1_:=(ZF (K4 h1));first|omega|(simp only[Xi] at *;omega)
   have hd:(min (l.length/4) 3)-k=((min (l.length/4) 3)-(k+1))+1:=by omega
   have vm:=(ZF (Js h1))
   have rq:=(ZF (K4 h1))
   refine Yg (TC.seq (TC.block ?_))
   obtain⟨r1,hr1⟩:∃ r,Yq (l[(4*k)]?.getD 0) 0 5000=r:=⟨_,rfl⟩
   obtain⟨r2,hr2⟩:∃ r,Yq (l[(w64 (((4*k:Nat):Int)+1)).toNat]?.getD 0) (-20000) 20000=r:=⟨_,rfl⟩
   obtain⟨r3,hr3⟩:∃ r,Yq (l[(w64 (((4*k:Nat):Int)+2)).toNat]?.getD 0) (-100) 100=r:=⟨_,rfl⟩
   obtain⟨r4,hr4⟩:∃ r,Yq (l[(w64 (((4*k:Nat):Int)+3)).toNat]?.getD 0) (-200) 200=r:=⟨_,rfl⟩
   refine Jm (G:=Nat×AN) (base:=[(0,.slice A_l l.length c_l),(3,.slice A_out out.length qh),(4,.i ((4*k:Nat):Int))]) (vals:=fun γ=>[.slice A_out out.length qh,.i ((4*k:Nat):Int),.i (w64 (((4*k:Nat):Int).tdiv 4)),.i (w64 (60000*(w64 (((4*k:Nat):Int).tdiv 4)))),.i (w64 ((-60000)+(w64 (60000*(w64 (((4*k:Nat):Int).tdiv 4)))))),.slice A_l l.length c_l,.i ((4*k:Nat):Int),.pointer (some (Ix A_l ((4*k)*1))),.i (l[(4*k)]?.getD 0),.i r1,.i (w64 ((w64 ((-60000)+(w64 (60000*(w64 (((4*k:Nat):Int).tdiv 4))))))+r1)),.slice A_l l.length c_l,.i ((4*k:Nat):Int),.i (w64 (((4*k:Nat):Int)+1)),.pointer (some ((A_l.getD Yz).add ((w64 (((4*k:Nat):Int)+1)).toNat*1))),.i (l[(w64 (((4*k:Nat):Int)+1)).toNat]?.getD 0),.i r2,P.v (⟨w64 ((w64 ((-60000)+(w64 (60000*(w64 (((4*k:Nat):Int).tdiv 4))))))+r1),r2⟩:P),.slice A_l l.length c_l,.i ((4*k:Nat):Int),.i (w64 (((4*k:Nat):Int)+2)),.pointer (some ((A_l.getD Yz).add ((w64 (((4*k:Nat):Int)+2)).toNat*1))),.i (l[(w64 (((4*k:Nat):Int)+2)).toNat]?.getD 0),.i r3,.slice A_l l.length c_l,.i ((4*k:Nat):Int),.i (w64 (((4*k:Nat):Int)+3)),.pointer (some ((A_l.getD Yz).add ((w64 (((4*k:Nat):Int)+3)).toNat*1))),.i (l[(w64 (((4*k:Nat):Int)+3)).toNat]?.getD 0),.i r4,P.v (⟨r3,r4⟩:P),.i ((4*k:Nat):Int),.i (w64 (((4*k:Nat):Int).tdiv 4)),.i (w64 (3000*(w64 (((4*k:Nat):Int).tdiv 4)))),.i (w64 (5000+(w64 (3000*(w64 (((4*k:Nat):Int).tdiv 4)))))),.i ((4*k:Nat):Int),.i (w64 (100+((4*k:Nat):Int))),Zq.v (⟨⟨w64 ((w64 ((-60000)+(w64 (60000*(w64 (((4*k:Nat):Int).tdiv 4))))))+r1),r2⟩,⟨r3,r4⟩,w64 (5000+(w64 (3000*(w64 (((4*k:Nat):Int).tdiv 4))))),w64 (100+((4*k:Nat):Int))⟩:Zq),.slice (Pa γ.1) 1 1,.slice (γ.2.1) ((out++([(⟨⟨w64 ((w64 ((-60000)+(w64 (60000*(w64 (((4*k:Nat):Int).tdiv 4))))))+r1),r2⟩,⟨r3,r4⟩,w64 (5000+(w64 (3000*(w64 (((4*k:Nat):Int).tdiv 4))))),w64 (100+((4*k:Nat):Int))⟩:Zq)])).length) (γ.2.2),.slice (γ.2.1) ((out++([(⟨⟨w64 ((w64 ((-60000)+(w64 (60000*(w64 (((4*k:Nat):Int).tdiv 4))))))+r1),r2⟩,⟨r3,r4⟩,w64 (5000+(w64 (3000*(w64 (((4*k:Nat):Int).tdiv 4))))),w64 (100+((4*k:Nat):Int))⟩:Zq)])).length) (γ.2.2)]) (writes:=[38,39]) (mem:=fun bs γ=>match bs with | [x38_,x39_]=>(bif x38_ then [Bk γ.1 (Zq.c (⟨⟨w64 ((w64 ((-60000)+(w64 (60000*(w64 (((4*k:Nat):Int).tdiv 4))))))+r1),r2⟩,⟨r3,r4⟩,w64 (5000+(w64 (3000*(w64 (((4*k:Nat):Int).tdiv 4))))),w64 (100+((4*k:Nat):Int))⟩:Zq)) 38] else [])++((bif x39_ then [Ow (γ.2.1) (γ.2.2) 38 6 ((out++([(⟨⟨w64 ((w64 ((-60000)+(w64 (60000*(w64 (((4*k:Nat):Int).tdiv 4))))))+r1),r2⟩,⟨r3,r4⟩,w64 (5000+(w64 (3000*(w64 (((4*k:Nat):Int).tdiv 4))))),w64 (100+((4*k:Nat):Int))⟩:Zq)])).map Zq.c)] else [Ow A_out qh 38 6 (out.map Zq.c)])++([]))|_=>[]) (0,(none,0)) (fun γ=>[(0,.slice A_l l.length c_l),(3,.slice (γ.2.1) ((out++([(⟨⟨w64 ((w64 ((-60000)+(w64 (60000*(w64 (((4*k:Nat):Int).tdiv 4))))))+r1),r2⟩,⟨r3,r4⟩,w64 (5000+(w64 (3000*(w64 (((4*k:Nat):Int).tdiv 4))))),w64 (100+((4*k:Nat):Int))⟩:Zq)])).length) (γ.2.2)),(4,.i ((4*k:Nat):Int))]) Kr Kr Kr Kr Kr (fun γ=>Kr) (fun _ hM=>hM) (fun γ=>Kr) ?_ ?_
   ·skip
    exact Steps.run (i:=0) 7 [0,0,0,0,0,0,0] [] Kr Kr (fun S (γ:Nat×AN) w hM=>by rw[mS2 rfl rfl] at hM;exact hM.sub (Zl (Zl (aB _)))) Kr (fun (γ:Nat×AN)=>{}) (XB (i:=7) (fun (γ:Nat×AN)=>sV (Instr.indexAt 22 (.slice A_l l.length c_l) (.i ((4*k:Nat):Int)))) (some 23) (fun (γ:Nat×AN)=>.pointer (some (Ix A_l ((4*k)*1)))) (fun _=>[]) Kr (fun S (γ:Nat×AN) w _ hM=>by rw[mS2 rfl rfl] at hM;exact hM.sub (Zl (Zl (aB _)))) (fun (γ:Nat×AN) w hM=>Zr (h_l.sat hM) (by simp) Kr sd sd) (fun (γ:Nat×AN)=>Kr) (fun (γ:Nat×AN)=>Kr) (XB (i:=8) (fun (γ:Nat×AN)=>sV (Instr.loadAt 3 (.pointer (some (Ix A_l ((4*k)*1)))))) (some 24) (fun (γ:Nat×AN)=>.i (l[(4*k)]?.getD 0)) (fun _=>[]) Kr (fun S (γ:Nat×AN) w _ hM=>by rw[mS2 rfl rfl] at hM;exact hM.sub (Zl (Zl (aB _)))) (fun (γ:Nat×AN) w hM=>Zu (off:=0) (i:=(4*k)) (.i (l[(4*k)]?.getD 0)) (h_l.sat hM) (Z6 (getD_at _ _ 0 sd)) Kr Kr) (fun (γ:Nat×AN)=>Kr) (fun (γ:Nat×AN)=>Kr) (Steps.call (i:=9) 13 (fun (γ:Nat×AN)=>#[.i (l[(4*k)]?.getD 0),.i 0,.i 5000]) (some 25) (fun (γ:Nat×AN)=>.i r1) (fun (γ:Nat×AN)=>[]) Kr (fun S (γ:Nat×AN) w _ hM=>by rw[mS2 rfl rfl] at hM;exact hM.sub (Zl (Zl (aB _)))) (fun (γ:Nat×AN) w _=>by have h:=Jj (l[(4*k)]?.getD 0) 0 5000 w (by first|omega|first|decide|omega|(simp only[Xi];omega)|(simp <;> omega));rw[hr1] at h;exact h) (fun (γ:Nat×AN)=>Kr) (fun (γ:Nat×AN)=>Kr) (Steps.run (i:=10) 14 [0,0,0,0] [] Kr Kr (fun S (γ:Nat×AN) w hM=>by rw[mS2 rfl rfl] at hM;exact hM.sub (Zl (Zl (aB _)))) Kr (fun (γ:Nat×AN)=>{}) (XB (i:=14) (fun (γ:Nat×AN)=>sV (Instr.indexAt 22 (.slice A_l l.length c_l) (.i (w64 (((4*k:Nat):Int)+1))))) (some 30) (fun (γ:Nat×AN)=>.pointer (some ((A_l.getD Yz).add ((w64 (((4*k:Nat):Int)+1)).toNat*1)))) (fun _=>[]) Kr (fun S (γ:Nat×AN) w _ hM=>by rw[mS2 rfl rfl] at hM;exact hM.sub (Zl (Zl (aB _)))) (fun (γ:Nat×AN) w hM=>Zr (h_l.sat hM) (by simp) Kr sd sd) (fun (γ:Nat×AN)=>Kr) (fun (γ:Nat×AN)=>Kr) (XB (i:=15) (fun (γ:Nat×AN)=>sV (Instr.loadAt 3 (.pointer (some ((A_l.getD Yz).add ((w64 (((4*k:Nat):Int)+1)).toNat*1)))))) (some 31) (fun (γ:Nat×AN)=>.i (l[(w64 (((4*k:Nat):Int)+1)).toNat]?.getD 0)) (fun _=>[]) Kr (fun S (γ:Nat×AN) w _ hM=>by rw[mS2 rfl rfl] at hM;exact hM.sub (Zl (Zl (aB _)))) (fun (γ:Nat×AN) w hM=>Zu (off:=0) (i:=(w64 (((4*k:Nat):Int)+1)).toNat) (.i (l[(w64 (((4*k:Nat):Int)+1)).toNat]?.getD 0)) (h_l.sat hM) (Z6 (getD_at _ _ 0 sd)) Kr Kr) (fun (γ:Nat×AN)=>Kr) (fun (γ:Nat×AN)=>Kr) (Steps.call (i:=16) 13 (fun (γ:Nat×AN)=>#[.i (l[(w64 (((4*k:Nat):Int)+1)).toNat]?.getD 0),.i (-20000),.i 20000]) (some 32) (fun (γ:Nat×AN)=>.i r2) (fun (γ:Nat×AN)=>[]) Kr (fun S (γ:Nat×AN) w _ hM=>by rw[mS2 rfl rfl] at hM;exact hM.sub (Zl (Zl (aB _)))) (fun (γ:Nat×AN) w _=>by have h:=Jj (l[(w64 (((4*k:Nat):Int)+1)).toNat]?.getD 0) (-20000) 20000 w (by first|omega|first|decide|omega|(simp only[Xi];omega)|(simp <;> omega));rw[hr2] at h;exact h) (fun (γ:Nat×AN)=>Kr) (fun (γ:Nat×AN)=>Kr) (Steps.run (i:=17) 21 [0,0,0,0] [] Kr Kr (fun S (γ:Nat×AN) w hM=>by rw[mS2 rfl rfl] at hM;exact hM.sub (Zl (Zl (aB _)))) Kr (fun (γ:Nat×AN)=>{}) (XB (i:=21) (fun (γ:Nat×AN)=>sV (Instr.indexAt 22 (.slice A_l l.length c_l) (.i (w64 (((4*k:Nat):Int)+2))))) (some 37) (fun (γ:Nat×AN)=>.pointer (some ((A_l.getD Yz).add ((w64 (((4*k:Nat):Int)+2)).toNat*1)))) (fun _=>[]) Kr (fun S (γ:Nat×AN) w _ hM=>by rw[mS2 rfl rfl] at hM;exact hM.sub (Zl (Zl (aB _)))) (fun (γ:Nat×AN) w hM=>Zr (h_l.sat hM) (by simp) Kr sd sd) (fun (γ:Nat×AN)=>Kr) (fun (γ:Nat×AN)=>Kr) (XB (i:=22) (fun (γ:Nat×AN)=>sV (Instr.loadAt 3 (.pointer (some ((A_l.getD Yz).add ((w64 (((4*k:Nat):Int)+2)).toNat*1)))))) (some 38) (fun (γ:Nat×AN)=>.i (l[(w64 (((4*k:Nat):Int)+2)).toNat]?.getD 0)) (fun _=>[]) Kr (fun S (γ:Nat×AN) w _ hM=>by rw[mS2 rfl rfl] at hM;exact hM.sub (Zl (Zl (aB _)))) (fun (γ:Nat×AN) w hM=>Zu (off:=0) (i:=(w64 (((4*k:Nat):Int)+2)).toNat) (.i (l[(w64 (((4*k:Nat):Int)+2)).toNat]?.getD 0)) (h_l.sat hM) (Z6 (getD_at _ _ 0 sd)) Kr Kr) (fun (γ:Nat×AN)=>Kr) (fun (γ:Nat×AN)=>Kr) (Steps.call (i:=23) 13 (fun (γ:Nat×AN)=>#[.i (l[(w64 (((4*k:Nat):Int)+2)).toNat]?.getD 0),.i (-100),.i 100]) (some 39) (fun (γ:Nat×AN)=>.i r3) (fun (γ:Nat×AN)=>[]) Kr (fun S (γ:Nat×AN) w _ hM=>by rw[mS2 rfl rfl] at hM;exact hM.sub (Zl (Zl (aB _)))) (fun (γ:Nat×AN) w _=>by have h:=Jj (l[(w64 (((4*k:Nat):Int)+2)).toNat]?.getD 0) (-100) 100 w (by first|omega|first|decide|omega|(simp only[Xi];omega)|(simp <;> omega));rw[hr3] at h;exact h) (fun (γ:Nat×AN)=>Kr) (fun (γ:Nat×AN)=>Kr) (Steps.run (i:=24) 27 [0,0,0] [] Kr Kr (fun S (γ:Nat×AN) w hM=>by rw[mS2 rfl rfl] at hM;exact hM.sub (Zl (Zl (aB _)))) Kr (fun (γ:Nat×AN)=>{}) (XB (i:=27) (fun (γ:Nat×AN)=>sV (Instr.indexAt 22 (.slice A_l l.length c_l) (.i (w64 (((4*k:Nat):Int)+3))))) (some 43) (fun (γ:Nat×AN)=>.pointer (some ((A_l.getD Yz).add ((w64 (((4*k:Nat):Int)+3)).toNat*1)))) (fun _=>[]) Kr (fun S (γ:Nat×AN) w _ hM=>by rw[mS2 rfl rfl] at hM;exact hM.sub (Zl (Zl (aB _)))) (fun (γ:Nat×AN) w hM=>Zr (h_l.sat hM) (by simp) Kr sd sd) (fun (γ:Nat×AN)=>Kr) (fun (γ:Nat×AN)=>Kr) (XB (i:=28) (fun (γ:Nat×AN)=>sV (Instr.loadAt 3 (.pointer (some ((A_l.getD Yz).add ((w64 (((4*k:Nat):Int)+3)).toNat*1)))))) (some 44) (fun (γ:Nat×AN)=>.i (l[(w64 (((4*k:Nat):Int)+3)).toNat]?.getD 0)) (fun _=>[]) Kr (fun S (γ:Nat×AN) w _ hM=>by rw[mS2 rfl rfl] at hM;exact hM.sub (Zl (Zl (aB _)))) (fun (γ:Nat×AN) w hM=>Zu (off:=0) (i:=(w64 (((4*k:Nat):Int)+3)).toNat) (.i (l[(w64 (((4*k:Nat):Int)+3)).toNat]?.getD 0)) (h_l.sat hM) (Z6 (getD_at _ _ 0 sd)) Kr Kr) (fun (γ:Nat×AN)=>Kr) (fun (γ:Nat×AN)=>Kr) (Steps.call (i:=29) 13 (fun (γ:Nat×AN)=>#[.i (l[(w64 (((4*k:Nat):Int)+3)).toNat]?.getD 0),.i (-200),.i 200]) (some 45) (fun (γ:Nat×AN)=>.i r4) (fun (γ:Nat×AN)=>[]) Kr (fun S (γ:Nat×AN) w _ hM=>by rw[mS2 rfl rfl] at hM;exact hM.sub (Zl (Zl (aB _)))) (fun (γ:Nat×AN) w _=>by have h:=Jj (l[(w64 (((4*k:Nat):Int)+3)).toNat]?.getD 0) (-200) 200 w (by first|omega|first|decide|omega|(simp only[Xi];omega)|(simp <;> omega));rw[hr4] at h;exact h) (fun (γ:Nat×AN)=>Kr) (fun (γ:Nat×AN)=>Kr) (Steps.run (i:=30) 38 [0,0,0,0,0,0,0,0] [] Kr Kr (fun S (γ:Nat×AN) w hM=>by rw[mS2 rfl rfl] at hM;exact hM.sub (Zl (Zl (aB _)))) Kr (fun (γ:Nat×AN)=>{}) (Steps.op (i:=38) (Γ:=Nat) (fun g (γ:Nat×AN)=>(g,γ.2)) (fun _=>[]) (fun b (γ:Nat×AN)=>[Bk b (Zq.c (⟨⟨w64 ((w64 ((-60000)+(w64 (60000*(w64 (((4*k:Nat):Int).tdiv 4))))))+r1),r2⟩,⟨r3,r4⟩,w64 (5000+(w64 (3000*(w64 (((4*k:Nat):Int).tdiv 4))))),w64 (100+((4*k:Nat):Int))⟩:Zq)) 38]) (fun S (γ:Nat×AN)=>(bif S 39 then [Ow (γ.2.1) (γ.2.2) 38 6 ((out++([(⟨⟨w64 ((w64 ((-60000)+(w64 (60000*(w64 (((4*k:Nat):Int).tdiv 4))))))+r1),r2⟩,⟨r3,r4⟩,w64 (5000+(w64 (3000*(w64 (((4*k:Nat):Int).tdiv 4))))),w64 (100+((4*k:Nat):Int))⟩:Zq)])).map Zq.c)] else [Ow A_out qh 38 6 (out.map Zq.c)])++([])) [38,39,40] (fun (γ:Nat×AN)=>sV (Instr.buildSlice 23 1 #[(0,Zq.v (⟨⟨w64 ((w64 ((-60000)+(w64 (60000*(w64 (((4*k:Nat):Int).tdiv 4))))))+r1),r2⟩,⟨r3,r4⟩,w64 (5000+(w64 (3000*(w64 (((4*k:Nat):Int).tdiv 4))))),w64 (100+((4*k:Nat):Int))⟩:Zq))])) (some 54) (fun b (γ:Nat×AN)=>.slice (Pa b) 1 1) (fun S (γ:Nat×AN) hj hd hl=>by rw[mS2 hj rfl];exact aC _) (fun S (γ:Nat×AN) g _=>(aC _).symm) (fun (γ:Nat×AN) M' w hM=>Q4 (v:=fun b=>.slice (Pa b) 1 1) (fun b M=>Kr) M' w hM) (fun (γ:Nat×AN)=>Kr) (fun (γ:Nat×AN) g=>Kr) Kr (fun (γ:Nat×AN) g=>Kr) (Vi (i:=39) (Γ:=AN) (fun g (γ:Nat×AN)=>(γ.1,g)) (fun (γ:Nat×AN)=>[Ow A_out qh 38 6 (out.map Zq.c),Bk γ.1 (Zq.c (⟨⟨w64 ((w64 ((-60000)+(w64 (60000*(w64 (((4*k:Nat):Int).tdiv 4))))))+r1),r2⟩,⟨r3,r4⟩,w64 (5000+(w64 (3000*(w64 (((4*k:Nat):Int).tdiv 4))))),w64 (100+((4*k:Nat):Int))⟩:Zq)) 38]) (fun g (γ:Nat×AN)=>[Ow (g.1) (g.2) 38 6 ((out++([(⟨⟨w64 ((w64 ((-60000)+(w64 (60000*(w64 (((4*k:Nat):Int).tdiv 4))))))+r1),r2⟩,⟨r3,r4⟩,w64 (5000+(w64 (3000*(w64 (((4*k:Nat):Int).tdiv 4))))),w64 (100+((4*k:Nat):Int))⟩:Zq)])).map Zq.c),Bk γ.1 (Zq.c (⟨⟨w64 ((w64 ((-60000)+(w64 (60000*(w64 (((4*k:Nat):Int).tdiv 4))))))+r1),r2⟩,⟨r3,r4⟩,w64 (5000+(w64 (3000*(w64 (((4*k:Nat):Int).tdiv 4))))),w64 (100+((4*k:Nat):Int))⟩:Zq)) 38]) (fun S (γ:Nat×AN)=>[]) [39,40] (fun (γ:Nat×AN)=>sV (Builtin.append_ #[23,23] 23 #[.slice A_out out.length qh,.slice (Pa γ.1) 1 1])) (some 55) (fun g (γ:Nat×AN)=>.slice (g.1) ((out++([(⟨⟨w64 ((w64 ((-60000)+(w64 (60000*(w64 (((4*k:Nat):Int).tdiv 4))))))+r1),r2⟩,⟨r3,r4⟩,w64 (5000+(w64 (3000*(w64 (((4*k:Nat):Int).tdiv 4))))),w64 (100+((4*k:Nat):Int))⟩:Zq)])).length) (g.2)) (fun S (γ:Nat×AN) hj hd hl=>by change List.Perm (((bif S 38 then [Bk γ.1 (Zq.c (⟨⟨w64 ((w64 ((-60000)+(w64 (60000*(w64 (((4*k:Nat):Int).tdiv 4))))))+r1),r2⟩,⟨r3,r4⟩,w64 (5000+(w64 (3000*(w64 (((4*k:Nat):Int).tdiv 4))))),w64 (100+((4*k:Nat):Int))⟩:Zq)) 38] else [])++((bif S 39 then [Ow (γ.2.1) (γ.2.2) 38 6 ((out++([(⟨⟨w64 ((w64 ((-60000)+(w64 (60000*(w64 (((4*k:Nat):Int).tdiv 4))))))+r1),r2⟩,⟨r3,r4⟩,w64 (5000+(w64 (3000*(w64 (((4*k:Nat):Int).tdiv 4))))),w64 (100+((4*k:Nat):Int))⟩:Zq)])).map Zq.c)] else [Ow A_out qh 38 6 (out.map Zq.c)])++([]))):Mem) _;rw[hj,hd 38 Kr];exact((aA _ (aC _)).trans (ZC _ _ _)).trans (aA _ ((aC _).trans (aA _ (aC _))))) (fun S (γ:Nat×AN) g _ hd hl=>by change List.Perm ([Ow (g.1) (g.2) 38 6 ((out++([(⟨⟨w64 ((w64 ((-60000)+(w64 (60000*(w64 (((4*k:Nat):Int).tdiv 4))))))+r1),r2⟩,⟨r3,r4⟩,w64 (5000+(w64 (3000*(w64 (((4*k:Nat):Int).tdiv 4))))),w64 (100+((4*k:Nat):Int))⟩:Zq)])).map Zq.c)]++([Bk γ.1 (Zq.c (⟨⟨w64 ((w64 ((-60000)+(w64 (60000*(w64 (((4*k:Nat):Int).tdiv 4))))))+r1),r2⟩,⟨r3,r4⟩,w64 (5000+(w64 (3000*(w64 (((4*k:Nat):Int).tdiv 4))))),w64 (100+((4*k:Nat):Int))⟩:Zq)) 38]++([]))) (((bif S 38 then [Bk γ.1 (Zq.c (⟨⟨w64 ((w64 ((-60000)+(w64 (60000*(w64 (((4*k:Nat):Int).tdiv 4))))))+r1),r2⟩,⟨r3,r4⟩,w64 (5000+(w64 (3000*(w64 (((4*k:Nat):Int).tdiv 4))))),w64 (100+((4*k:Nat):Int))⟩:Zq)) 38] else [])++((bif true then [Ow (g.1) (g.2) 38 6 ((out++([(⟨⟨w64 ((w64 ((-60000)+(w64 (60000*(w64 (((4*k:Nat):Int).tdiv 4))))))+r1),r2⟩,⟨r3,r4⟩,w64 (5000+(w64 (3000*(w64 (((4*k:Nat):Int).tdiv 4))))),w64 (100+((4*k:Nat):Int))⟩:Zq)])).map Zq.c)] else [Ow A_out qh 38 6 (out.map Zq.c)])++([]))):Mem);rw[hd 38 Kr];exact(((aA _ (aC _)).trans (ZC _ _ _)).trans (aA _ ((aC _).trans (aA _ (aC _))))).symm) (fun (γ:Nat×AN) M' w hM=>QE (bytes:=48) 23 0 ([(⟨⟨w64 ((w64 ((-60000)+(w64 (60000*(w64 (((4*k:Nat):Int).tdiv 4))))))+r1),r2⟩,⟨r3,r4⟩,w64 (5000+(w64 (3000*(w64 (((4*k:Nat):Int).tdiv 4))))),w64 (100+((4*k:Nat):Int))⟩:Zq)]) Kr rfl rfl Zq.one rfl (fun w hM=>(Rd.lit hM 1 _ rfl Kr Kr Kr)) rfl sa w hM) (fun (γ:Nat×AN)=>Kr) (fun (γ:Nat×AN) g=>Kr) Kr (fun (γ:Nat×AN) g=>Kr) (Steps.run (i:=40) 41 [0] [] Kr Kr (fun S (γ:Nat×AN) w hM=>by rw[mS2 rfl rfl] at hM;exact hM.sub (Zl (Zl (aB _)))) Kr (fun (γ:Nat×AN)=>{}) (X6 Kr))))))))))))))))))))
   ·rintro⟨b1,⟨A,c⟩⟩
    exact Yi [Bk b1 (Zq.c (⟨⟨w64 ((w64 ((-60000)+(w64 (60000*(w64 (((4*k:Nat):Int).tdiv 4))))))+r1),r2⟩,⟨r3,r4⟩,w64 (5000+(w64 (3000*(w64 (((4*k:Nat):Int).tdiv 4))))),w64 (100+((4*k:Nat):Int))⟩:Zq)) 38,Ow A c 38 6 ((out++([(⟨⟨w64 ((w64 ((-60000)+(w64 (60000*(w64 (((4*k:Nat):Int).tdiv 4))))))+r1),r2⟩,⟨r3,r4⟩,w64 (5000+(w64 (3000*(w64 (((4*k:Nat):Int).tdiv 4))))),w64 (100+((4*k:Nat):Int))⟩:Zq)])).map Zq.c)] (fun _ hM=>hM) (ZY (Z3 (TC.region (Zc 3 [] [(4,.i (w64 (((4*k:Nat):Int)+4)))] {} (Zw rfl (TE.rw 4 (.i (w64 (((4*k:Nat):Int)+4))) (.i ((4*(k+1):Nat):Int)) Kr (int_eq (by first|omega|(rw[Zt (by omega)];omega)|(simp only[Xi] at *;omega))) (Z4 (x:=(k,out,A_out,qh)) (k+1,(out++([(⟨⟨w64 ((w64 ((-60000)+(w64 (60000*(w64 (((4*k:Nat):Int).tdiv 4))))))+r1),r2⟩,⟨r3,r4⟩,w64 (5000+(w64 (3000*(w64 (((4*k:Nat):Int).tdiv 4))))),w64 (100+((4*k:Nat):Int))⟩:Zq)])),A,c) ⟨by omega,hI.trans (by subst hr1 hr2 hr3 hr4;rw[hd];exact rfl),sl⟩ (mN hlt) Kr (sb 2))))))))
  ·have hd:(min (l.length/4) 3)-k=0:=by have p0_:=((Qr h1).imp (fun h=>(Zv h)) (fun h=>(Zv h)));first|omega|(simp only[Xi] at *;omega)
   refine TC.exit (ZT (ZT (Z0 ?_)))
   exact TE.cut (out,A_out,qh) (⟨hI.trans (by rw[hd];exact rfl),sl⟩) Kr (sb 1)
 ·rintro⟨qk,A_out_2,qe⟩ ⟨hJ,jw⟩
  refine YC (Zc 2 [] [(2,.slice A_out_2 qk.length qe)] {} (Zb rfl (TC.ret ?_)))
  have e:Xk l=qk:=by unfold Xk;exact Yr (hR.symm.trans hJ) (rfl)
  rw[e]
  exact ZO (.inl rfl) (A_out_2,qe) [] (.slice A_out_2 qk.length qe) {} rfl (fun _ hM=>hM.sub (sb 1))
def Qs:Bool :=
 let r1:=Yh
 let r2:=Y7 r1
 cond ((r2.2 != 0)||false) (
  false) (
  let r3:=Zy r2.1 ([(⟨0,⟨0,0⟩,0,5,10⟩:Zj)]:List Zj) 0
  let r4:=Zy r3.2.2 ([(⟨4,⟨0,0⟩,0,5,10⟩:Zj)]:List Zj) 4
  cond ((r4.2.1==0)&&((r4.1.length:Int)==1)) (
   ((r4.1[0]?.getD Track.zero).State)==1) (
   false))
theorem E4 {r1:ZB} {r2:Zi×Int} (h1:Yh=r1) (h2:Y7 r1=r2):r2.1.all=[]:=by
 subst h1 h2
 rfl
theorem W5 (w:World):Calls Tryz.prog 12 #[] w (Ret w (.bool (Qs))):=by
 refine Zp (vs:=[]) (w:=w) Tryz.func12 rfl Tryz.ntmps12 rfl (Zf (Zc 1 [] [(0,.b false)] {} (Zz (TL.c 5 (Yh) (fun r1=>ZB.v r1) (fun w _=>Ub w) {} (fun r1 hr1=>Be (Γ:=Nat×AN) 0 6 (Y7 r1) (fun r2 g=>.tuple #[.p0 g.1,.i r2.2]) (fun r2 g=>[Bk g.1 (Zi.k r2.1 g.2.1 g.2.2) 118,Ow g.2.1 g.2.2 122 23 (r2.1.all.map followed.c)]) [] Kr (fun w hM=>Wp r1 w hM (by subst hr1;rfl)) {} (fun r2 hr2=>?_))))))
 have nl_:r2.1.all.length≤32:=by rw[E4 hr1 hr2];decide
 rintro⟨xw,A,c⟩
 refine Y3 (fun w hM=>hM.short_at 1 rfl) (fun sv=>Zc 7 [] [(1,.p0 xw),(2,.i r2.2)] {} (Z1 (Zf (Zc 3 [] [(11,.b (r2.2 != 0))] {} (XM 11 (r2.2 != 0) 6 [] [] (fun β=>[(14,.b (β||false))]) Kr {} {} (Zb rfl (TC.cond ((r2.2 != 0)||false) rfl Kr (fun h1=>?_) (fun h1=>?_))))))))
 ·exact Zf (Zc 1 [] [(0,.b false)] {} (Zb rfl (TC.ret (Zo (TE.ret [] (.b false) {} (by unfold Qs;refine eS (fun z=>(.b z:Value)) ?_;subst hr1 hr2;exact Zm h1 (rfl)))))))
 ·have vm:=(QA (Z2 h1))
  refine Yc (Zc 2 [] [(15,.p0 xw),(16,Zj.v (⟨0,⟨0,0⟩,0,5,10⟩:Zj))] {} (ZA 17 (fun b1=>.slice (Pa b1) 1 1) (fun b1=>Bk b1 (Zj.c (⟨0,⟨0,0⟩,0,5,10⟩:Zj)) 42) (fun b1=>{}) (fun b1=>Xm [Ow (Pa b1) 1 42 6 (([(⟨0,⟨0,0⟩,0,5,10⟩:Zj)]:List Zj).map Zj.c),Bk xw (Zi.k r2.1 A c) 118,Ow A c 122 23 (r2.1.all.map followed.c)] (fun _ hM=>by exact hM.litrow 0 (([(⟨0,⟨0,0⟩,0,5,10⟩:Zj)]:List Zj).map Zj.c) rfl Kr Kr Kr Kr) (Xm [Bk xw (Zi.k r2.1 A c) 118,Ow A c 122 23 (r2.1.all.map followed.c),Ow (Pa b1) 1 42 6 (([(⟨0,⟨0,0⟩,0,5,10⟩:Zj)]:List Zj).map Zj.c)] (fun _ hM=>hM.perm (px [1,2,0])) (Be (Γ:=AN×AN) 3 18 (Zy r2.1 ([(⟨0,⟨0,0⟩,0,5,10⟩:Zj)]:List Zj) 0) (fun r3 g=>.tuple #[.slice g.1.1 r3.1.length g.1.2,.i r3.2.1]) (fun r3 g=>[Bk xw (Zi.k r3.2.2 g.2.1 g.2.2) 118,Ow g.2.1 g.2.2 122 23 (r3.2.2.all.map followed.c),Ow (Pa b1) 1 42 6 (([(⟨0,⟨0,0⟩,0,5,10⟩:Zj)]:List Zj).map Zj.c),Ow g.1.1 g.1.2 40 13 (r3.1.map Track.c)]) [Bk xw (Zi.k r2.1 A c) 118,Ow A c 122 23 (r2.1.all.map followed.c),Ow (Pa b1) 1 42 6 (([(⟨0,⟨0,0⟩,0,5,10⟩:Zj)]:List Zj).map Zj.c)] Kr (fun w hM=>Kt xw r2.1 A c (Pa b1) 1 ([(⟨0,⟨0,0⟩,0,5,10⟩:Zj)]:List Zj) 0 w hM sg) {} (fun r3 hr3=>?_))))))
  have nl2_:=Og hr3 nl_
  rintro⟨⟨A_2,c_2⟩,A_3,c_3⟩
  refine Y3 (fun w hM=>hM.short_at 1 rfl) (fun s_r3_1=>Y3 (fun w hM=>hM.short_at 3 rfl) (fun s_r3_3=>Zz (Zc 2 [] [(20,.p0 xw),(21,Zj.v (⟨4,⟨0,0⟩,0,5,10⟩:Zj))] {} (ZA 22 (fun b2=>.slice (Pa b2) 1 1) (fun b2=>Bk b2 (Zj.c (⟨4,⟨0,0⟩,0,5,10⟩:Zj)) 42) (fun b2=>{}) (fun b2=>Xm [Ow (Pa b2) 1 42 6 (([(⟨4,⟨0,0⟩,0,5,10⟩:Zj)]:List Zj).map Zj.c),Bk xw (Zi.k r3.2.2 A_3 c_3) 118,Ow A_3 c_3 122 23 (r3.2.2.all.map followed.c),Ow (Pa b1) 1 42 6 (([(⟨0,⟨0,0⟩,0,5,10⟩:Zj)]:List Zj).map Zj.c),Ow A_2 c_2 40 13 (r3.1.map Track.c)] (fun _ hM=>by exact hM.litrow 0 (([(⟨4,⟨0,0⟩,0,5,10⟩:Zj)]:List Zj).map Zj.c) rfl Kr Kr Kr Kr) (Xm [Bk xw (Zi.k r3.2.2 A_3 c_3) 118,Ow A_3 c_3 122 23 (r3.2.2.all.map followed.c),Ow (Pa b2) 1 42 6 (([(⟨4,⟨0,0⟩,0,5,10⟩:Zj)]:List Zj).map Zj.c),Ow (Pa b1) 1 42 6 (([(⟨0,⟨0,0⟩,0,5,10⟩:Zj)]:List Zj).map Zj.c),Ow A_2 c_2 40 13 (r3.1.map Track.c)] (fun _ hM=>hM.perm (px [1,2,0,3,4])) (Be (Γ:=AN×AN) 3 23 (Zy r3.2.2 ([(⟨4,⟨0,0⟩,0,5,10⟩:Zj)]:List Zj) 4) (fun r4 g=>.tuple #[.slice g.1.1 r4.1.length g.1.2,.i r4.2.1]) (fun r4 g=>[Bk xw (Zi.k r4.2.2 g.2.1 g.2.2) 118,Ow g.2.1 g.2.2 122 23 (r4.2.2.all.map followed.c),Ow (Pa b2) 1 42 6 (([(⟨4,⟨0,0⟩,0,5,10⟩:Zj)]:List Zj).map Zj.c),Ow g.1.1 g.1.2 40 13 (r4.1.map Track.c)]) [Bk xw (Zi.k r3.2.2 A_3 c_3) 118,Ow A_3 c_3 122 23 (r3.2.2.all.map followed.c),Ow (Pa b2) 1 42 6 (([(⟨4,⟨0,0⟩,0,5,10⟩:Zj)]:List Zj).map Zj.c)] Kr (fun w hM=>Kt xw r3.2.2 A_3 c_3 (Pa b2) 1 ([(⟨4,⟨0,0⟩,0,5,10⟩:Zj)]:List Zj) 4 w hM sg) {} (fun r4 hr4=>?_))))))))
  rintro⟨⟨A_4,c_4⟩,A_5,c_5⟩
  refine Y3 (fun w hM=>hM.short_at 1 rfl) (fun s_r4_1=>Y3 (fun w hM=>hM.short_at 3 rfl) (fun s_r4_3=>Zc 9 [] [(2,.i r4.2.1),(3,.slice A_4 r4.1.length c_4)] {} (Zz (Zc 3 [] [(28,.b (r4.2.1==0))] {} (XM 28 (r4.2.1==0) 7 [] [] (fun β=>[(32,.b (β&&((r4.1.length:Int)==1)))]) Kr {} {} (Zc 8 [] [(33,.b ((r4.2.1==0)&&((r4.1.length:Int)==1)))] {} (Yy 33 ((r4.2.1==0)&&((r4.1.length:Int)==1)) Kr (fun h2=>?_) (fun h2=>?_))))))))
  ·have k9:=(YT (Js h2))
   have ox:=(YT (K4 h2))
   exact Zc 9 [] [(34,.slice A_4 r4.1.length c_4)] {} (TL.v (sV (Instr.indexAt 57 (.slice A_4 r4.1.length c_4) (.i 0))) 35 (.pointer (some (Ix A_4 (0*13)))) (fun w hM=>Zr (hM.rd_at 3 rfl) (by simp) Kr sd sd) {} (Zc 11 [] [(36,.pointer (some ((Ix A_4 (0*13)).add 1)))] {} (TL.v (sV (Instr.loadAt 3 (.pointer (some ((Ix A_4 (0*13)).add 1))))) 37 (.i ((r4.1[0]?.getD Track.zero).State)) (fun w hM=>Zu (off:=1) (i:=0) (.i ((r4.1[0]?.getD Track.zero).State)) (hM.rd_at 3 rfl) (Z6 (getD_at _ _ Track.zero sd)) Kr Kr) {} (Zc 15 [] [(0,.b (((r4.1[0]?.getD Track.zero).State)==1))] {} (Zb rfl (TC.ret (TE.ret [] (.b (((r4.1[0]?.getD Track.zero).State)==1)) {} (by unfold Qs;refine eS (fun z=>(.b z:Value)) ?_;subst hr1 hr2 hr3 hr4;exact Ze h1 (Zm h2 (rfl))))))))))
  ·exact Zc 15 [] [(0,.b false)] {} (Zb rfl (TC.ret (TE.ret [] (.b false) {} (by unfold Qs;refine eS (fun z=>(.b z:Value)) ?_;subst hr1 hr2 hr3 hr4;exact Ze h1 (Ze h2 (rfl))))))
end Go.Sky
end
section
namespace Go.Sky
open Go Go.Eng
structure Jy (f:Zq):Prop where
 x:-75000≤f.at_.X∧f.at_.X≤65000
 y:-35000≤f.at_.Y∧f.at_.Y≤35000
 vx:-100≤f.speed.X∧f.speed.X≤100
 vy:-200≤f.speed.Y∧f.speed.Y≤200
 h:5000≤f.height∧f.height≤11000
 c:100≤f.code∧f.code≤108
theorem Do (l:List Int):∀ (m k:Nat) (out:List Zq),k+m≤3→(∀ f∈out,Jy f)→(YA l m k out).length=out.length+m∧∀ f∈YA l m k out,Jy f
 | 0,_,out,_,h=>⟨rfl,h⟩
 | m+1,k,out,hk,h=>by
  unfold YA
  dsimp only
  have e:((4*k:Nat):Int).tdiv 4=(k:Int):=by rw[dB (by omega)];omega
  rw[e]
  generalize hr1:Yq (l[4*k]?.getD 0) 0 5000=r1
  generalize hr2:Yq (l[(w64 (((4*k:Nat):Int)+1)).toNat]?.getD 0) (-20000) 20000=r2
  generalize hr3:Yq (l[(w64 (((4*k:Nat):Int)+2)).toNat]?.getD 0) (-100) 100=r3
  generalize hr4:Yq (l[(w64 (((4*k:Nat):Int)+3)).toNat]?.getD 0) (-200) 200=r4
  have b1:=UH hr1 (by decide) (by decide) (by decide)
  have b2:=UH hr2 (by decide) (by decide) (by decide)
  have b3:=UH hr3 (by decide) (by decide) (by decide)
  have b4:=UH hr4 (by decide) (by decide) (by decide)
  rw[Zt (x:=60000*w64 (k:Int)) (by rw[Zt (by omega)];omega),Zt (x:=3000*w64 (k:Int)) (by rw[Zt (by omega)];omega),Zt (x:=(k:Int)) (by omega),Zt (x:=-60000+60000*(k:Int)) (by omega),Zt (x:=-60000+60000*(k:Int)+r1) (by omega),Zt (x:=5000+3000*(k:Int)) (by omega),Zt (x:=100+((4*k:Nat):Int)) (by omega)]
  have:=Do l m (k+1) (out ++ [(⟨⟨-60000+60000*(k:Int)+r1,r2⟩,⟨r3,r4⟩,5000+3000*(k:Int),100+((4*k:Nat):Int)⟩:Zq)]) (by omega) (fun f hf=>by
   rcases bO.1 hf with hf|hf
   ·exact h f hf
   ·rw[bE.1 hf]
    exact⟨by dsimp only;omega,by dsimp only;omega,b3,b4,by dsimp only;omega,by dsimp only;omega⟩)
  rw[aW,eQ] at this
  exact⟨by rw[this.1];omega,this.2⟩
theorem RY (l:List Int):(Xk l).length≤3∧∀ f∈Xk l,Jy f:=by
 have:=Do l (min (l.length/4) 3) 0 [] (by omega) (fun _ h=>nomatch h)
 exact⟨by show (YA l (min (l.length/4) 3) 0 []).length≤3;rw[this.1];simp only[dQ];omega,this.2⟩
theorem G4 {a t A T:Int} (ha:-A≤a∧a≤A) (ht:0≤t∧t≤T):-(A*T)≤a*t∧a*t≤A*T:=by
 have hA:0≤A:=by omega
 have h1:a*t≤A*t:=aY ha.2 ht.1
 have h2:-A*t≤a*t:=aY ha.1 ht.1
 have h3:A*t≤A*T:=bM ht.2 hA
 rw[Int.neg_mul] at h2
 omega
theorem G5 {f:Zq} (h:Jy f) {t:Int} (ht:0≤t∧t≤200):Y1 f t=⟨f.at_.X+f.speed.X*t,f.at_.Y+f.speed.Y*t⟩∧(-95000≤f.at_.X+f.speed.X*t∧f.at_.X+f.speed.X*t≤85000)∧(-75000≤f.at_.Y+f.speed.Y*t∧f.at_.Y+f.speed.Y*t≤75000):=by
 have m1:=G4 h.vx ht
 have m2:=G4 h.vy ht
 have hx:=h.x;have hy:=h.y
 refine⟨?_,by omega,by omega⟩
 unfold Y1
 rw[Zt (x:=f.speed.X*t) (by omega),Zt (x:=f.speed.Y*t) (by omega),Zt (by omega),Zt (by omega)]
def JQ (f:Zq) (t:Int):Zj:=⟨t,Y1 f t,f.height,f.code,0⟩
end Go.Sky
end
section
namespace Go.Sky
open Go Go.Eng Go.Glue
structure Fol (f:Za) (t:Nat) (h c:Int):Prop where
 inn:f.In
 time:f.Track.Time=(t:Int)
 last:f.Last.Time=(t:Int)
 slack:f.Slack≤10402+100*(t:Int)
 rad:f.Track.Radius≤1000+1100*(t:Int)
 high:f.Track.Height=h∧f.Track.Rate=0∧f.Last.Height=h
 code:f.Track.Code=c
 err:0≤f.Last.Error∧f.Last.Error≤1000
 hits:f.Track.Hits≤(t:Int)+1
theorem RZ {n a b:Int} (h:a≤n∧n≤b):XY n a b=n:=by
 unfold XY
 rw[decide_eq_false (show ¬ n<a by omega),decide_eq_false (show ¬ a>b by omega),decide_eq_false (show ¬ n>b by omega)]
 rfl
theorem Dp {x v:Nat→P} {qg h c:Int} {K:Nat} (hr:Run x v qg K) (yp:qg≤5) {f:Za} {t d:Nat} (hh:0≤h∧h≤60000) (hg:Fol f t h c) (hk:Knows f (x t) (v t)) (hd:t+d≤K) (hd1:1≤d) (hd2:d≤60) (ht:t≤60) :
  (Z5 f ((t+d:Nat):Int) qg).2=0∧(Z5 f ((t+d:Nat):Int) qg).1=YM f ((t+d:Nat):Int) qg∧(YM f ((t+d:Nat):Int) qg).In∧Knows (YM f ((t+d:Nat):Int) qg) (x (t+d)) (v (t+d)) ∧
   grow f.Slack qg (d:Int)≤2000*(d:Int)∧(YM f ((t+d:Nat):Int) qg).Track.Height=h:=by
 have hkn:=Fg hr hk hg.time hd hd1
 have ha:=hr.acc
 have hi:=hg.inn
 have e0:((t+d:Nat):Int)-f.Track.Time=(d:Int):=by rw[hg.time];omega
 have hsl:=hg.slack
 have g1:=Tv (slack:=f.Slack) (acc:=qg) (d:=(d:Int)) (S:=16402) (A:=5) (D:=60) ⟨hi.2.2.2.2.1.1,by omega⟩ ⟨ha.1,yp⟩ (by omega)
 have hgr:grow f.Slack qg (d:Int)≤2000*(d:Int):=by omega
 have g2:=Nz (slack:=f.Slack) (acc:=qg) (d:=(d:Int)) hi.2.2.2.2.1 ⟨ha.1,by omega⟩ (by omega)
 have tt:(YM f ((t+d:Nat):Int) qg).Track.Height=h:=by
  unfold YM
  simp only[e0,hg.high.1,hg.high.2.1]
  rw[Int.zero_mul,show (0:Int)/16=0 by decide,Int.add_zero,RZ hh]
 have hin:(YM f ((t+d:Nat):Int) qg).In:=by
  have iz:=hr.pos (t+d) hd
  have hr:=hg.rad
  have td:(YM f ((t+d:Nat):Int) qg).Track.Radius=f.Track.Radius+grow f.Slack qg (d:Int):=by unfold YM;simp only[e0]
  have hslk:(YM f ((t+d:Nat):Int) qg).Slack=f.Slack+16*qg*(d:Int):=by unfold YM;simp only[e0]
  have b:=hkn.1.abs
  rw[td] at b
  have hm:=Vb (a:=qg) (b:=(d:Int)) (A:=5) (B:=60) ⟨ha.1,yp⟩ (by omega)
  have hm2:16*qg*(d:Int)=16*(qg*(d:Int)):=fR ..
  refine⟨⟨by show 0≤((t+d:Nat):Int)∧((t+d:Nat):Int)≤200000;omega,⟨by omega,by omega,by omega,by omega⟩,by rw[tt];exact hh,hi.1.2.2.2.1,by rw[td];have:=hi.1.2.2.2.2;omega⟩,
   hi.2.1,hi.2.2.1,hi.2.2.2.1,by rw[hslk,hm2];have:=hi.2.2.2.2.1;omega,hi.2.2.2.2.2.1,hi.2.2.2.2.2.2.1,hi.2.2.2.2.2.2.2.1,by show f.Last.Time≤((t+d:Nat):Int);rw[hg.last];omega⟩
 rcases RH (f:=f) (t:=((t+d:Nat):Int)) (a:=qg) hi (by omega) ⟨ha.1,by omega⟩ (by rw[e0];omega) with ⟨p1,p2,_⟩|⟨_,p2⟩
 ·exact⟨p1,p2,hin,hkn,hgr,tt⟩
 ·exact absurd hin p2
structure UX (s:Zj) (T h c:Int) (p:P):Prop where
 time:s.Time=T
 high:s.Height=h
 code:s.Code=c
 err:0≤s.Error∧s.Error≤1000
 near:Ji (s.At.X-p.X) (s.At.Y-p.Y) s.Error
theorem GR {s:Zj} {T h c:Int} {p:P} (g:UX s T h c p) (hT:0≤T∧T≤200000) (hh:0≤h∧h≤60000) (hc:-1≤c∧c≤4095) (hp:(-112000≤p.X∧p.X≤112000)∧(-112000≤p.Y∧p.Y≤112000)):s.In:=by
 have b:=g.near.abs
 have e:=g.err
 exact⟨by rw[g.time];exact hT,⟨by omega,by omega,by omega,by omega⟩,by rw[g.high];exact hh,by rw[g.code];exact hc,by omega⟩
theorem Dq {x v:Nat→P} {qg h c:Int} {K:Nat} (hr:Run x v qg K) (yp:qg≤5) {f:Za} {t d:Nat} (hh:0≤h∧h≤60000) (hc:0≤c∧c≤4095) (hg:Fol f t h c) (hk:Knows f (x t) (v t)) (hd:t+d≤K) (hd1:1≤d) (hd2:d≤60) (ht:t≤60) {s:Zj} (hs:UX s ((t+d:Nat):Int) h c (x (t+d))) :
  ZX (YM f ((t+d:Nat):Int) qg).Track.At s.At (w64 ((YM f ((t+d:Nat):Int) qg).Track.Radius+s.Error))=true:=by
 obtain⟨p1,p2,p3,p4,p5,p6⟩:=Dp hr yp hh hg hk hd hd1 hd2 ht
 have sin:=GR hs (by omega) hh (by omega) (hr.pos _ hd)
 have hR:=p3.1.2.2.2.2
 have e:=hs.err
 rw[Zt (by omega),within_iff p3.1.2.1 sin.2.1 (by omega)]
 have b:=p4.1.add hs.near.neg
 rw[decide_eq_true_eq]
 refine⟨by omega,?_⟩
 have b2:=b.2
 rw[show (YM f ((t+d:Nat):Int) qg).Track.At.X-(x (t+d)).X + -(s.At.X-(x (t+d)).X)=(YM f ((t+d:Nat):Int) qg).Track.At.X-s.At.X by omega,show (YM f ((t+d:Nat):Int) qg).Track.At.Y-(x (t+d)).Y + -(s.At.Y-(x (t+d)).Y)=(YM f ((t+d:Nat):Int) qg).Track.At.Y-s.At.Y by omega] at b2
 exact b2
theorem E5 {x v:Nat→P} {qg h c:Int} {K:Nat} (hr:Run x v qg K) (yp:qg≤1) {f:Za} {t d:Nat} (hh:0≤h∧h≤60000) (hc:0≤c∧c≤4095) (hg:Fol f t h c) (hk:Knows f (x t) (v t)) (hl:Ji (f.Last.At.X-(x t).X) (f.Last.At.Y-(x t).Y) f.Last.Error)
  (hd:t+d≤K) (hd1:4≤d∧d≤20) (ht:t+d≤60) {s:Zj} (hs:UX s ((t+d:Nat):Int) h c (x (t+d))) {pl sp:Int} (hpl:0≤pl∧pl≤256) (hsp:0≤sp∧sp≤256) :
  ∃ r,Yk f s qg pl sp=(r,0)∧Fol r (t+d) h c∧Knows r (x (t+d)) (v (t+d))∧r.Last=s∧r.Track.ID=f.Track.ID∧r.Track.State=f.Track.State∧r.Track.Misses=0:=by
 have s1:=hs.time
 have ha:=hr.acc
 have hi:=hg.inn
 obtain⟨p1,p2,p3,p4,p5,p6⟩:=Dp hr (by omega) hh hg hk hd (by omega) (by omega) (by omega)
 have hw:=Dq hr (by omega) hh hc hg hk hd (by omega) (by omega) (by omega) hs
 rw[← s1] at p1 p2 p3 p4 hw
 have iz:=hr.pos (t+d) hd
 have hpos0:=hr.pos t (by omega)
 have hvel:=hr.vel (t+d) hd
 have sa:=hs.near.abs
 have la:=hl.abs
 have se:=hs.err
 have le:=hg.err
 have e0:s.Time-f.Track.Time=(d:Int):=by rw[s1,hg.time];omega
 have sin:s.In:=GR hs (by omega) hh (by omega) iz
 have prad:(YM f s.Time qg).Track.Radius=f.Track.Radius+grow f.Slack qg (d:Int):=by unfold YM;simp only[e0]
 have pslk:(YM f s.Time qg).Slack=f.Slack+16*qg*(d:Int):=by unfold YM;simp only[e0]
 have hR:=p3.1.2.2.2.2
 have hsl:=hg.slack
 have hrd:=hg.rad
 have gb:=Tv (slack:=f.Slack) (acc:=qg) (d:=(d:Int)) (S:=16402) (A:=1) (D:=20) ⟨hi.2.2.2.2.1.1,by omega⟩ ⟨ha.1,yp⟩ (by omega)
 have hgr:grow f.Slack qg (d:Int)≤1090*(d:Int):=by omega
 have hm:=Vb (a:=qg) (b:=(d:Int)) (A:=1) (B:=20) ⟨ha.1,yp⟩ (by omega)
 have hm5:qg*(d:Int)≤1*(d:Int):=aY yp (by omega)
 have hm2:16*qg*(d:Int)=16*(qg*(d:Int)):=fR ..
 have sb:=S1 hr hd (by omega) hs.near hl
 have zu:0 ≤ -(-(16*(s.Error+f.Last.Error))/(d:Int)) ∧ -(-(16*(s.Error+f.Last.Error))/(d:Int))≤8000:=by
  have q0:-(16*(s.Error+f.Last.Error))/(d:Int)<1:=by rw[fL (by omega)];omega
  have q1:-8000 ≤ -(16*(s.Error+f.Last.Error))/(d:Int):=by
   rw[eK (by omega)];omega
  omega
 obtain⟨M,hM⟩:∃ M,M=-(-(16*(s.Error+f.Last.Error))/(d:Int))+16*qg*(d:Int)+2:=⟨_,rfl⟩
 have hMb:0≤M∧M≤10402:=by omega
 rw[← hM] at sb
 have run1:∀ e:Nat,t+e≤K→(-200*(e:Int)≤(x (t+e)).X-(x t).X∧(x (t+e)).X-(x t).X≤200*(e:Int))∧(-200*(e:Int)≤(x (t+e)).Y-(x t).Y∧(x (t+e)).Y-(x t).Y≤200*(e:Int)):=by
  intro e
  induction e with
  | zero=>intro _;simp
  | succ e ih =>
   intro he
   have:=ih (by omega)
   have st:=hr.step (t+e) (by omega)
   have ve:=hr.vel (t+e) (by omega)
   rw[show t+(e+1)=t+e+1 by omega,st.1,st.2]
   omega
 have rd:=run1 d hd
 have seen:∀ z:Int,-200*(d:Int)-2000≤z→z≤200*(d:Int)+2000 → -(16*800)≤16*z/(d:Int)∧16*z/(d:Int)≤16*800:=by
  intro z z1 z2
  constructor
  ·rw[eK (by omega)];omega
  ·have:16*z/(d:Int)<16*800+1:=by rw[fL (by omega)];omega
   omega
 have sx:=seen (s.At.X-f.Last.At.X) (by omega) (by omega)
 have sy:=seen (s.At.Y-f.Last.At.Y) (by omega) (by omega)
 have ux:=Iw (A:=(YM f s.Time qg).Track.Radius) (B:=s.Error) (M:=1000+1100*((t+d:Nat):Int)-2) (by omega) (by omega) hpl
 have us:=Iw (A:=(YM f s.Time qg).Slack) (B:=M) (M:=10402+100*((t+d:Nat):Int)-2) (by rw[pslk];have:=hi.2.2.2.2.1;omega) (by omega) hsp
 have spx:=HS (g:=sp) hi.2.1 sx hsp
 have spy:=HS (g:=sp) hi.2.2.1 sy hsp
 have kb1:=Lo p4.1 hs.near hpl
 have kb2:=Lo p4.2 sb hsp
 obtain⟨r,hre⟩:∃ r,r=Lp f s qg pl sp (d:Int):=⟨_,rfl⟩
 have np:r.Track.Radius=-(-((256-pl)*(YM f s.Time qg).Track.Radius+pl*s.Error)/256)+2:=by rw[hre];rfl
 have nq:r.Slack=-(-((256-sp)*(YM f s.Time qg).Slack+sp*M)/256)+2:=by rw[hre,hM];rfl
 have rx:r.Track.At.X=(YM f s.Time qg).Track.At.X+(s.At.X-(YM f s.Time qg).Track.At.X)*pl/256:=by rw[hre];rfl
 have ry:r.Track.At.Y=(YM f s.Time qg).Track.At.Y+(s.At.Y-(YM f s.Time qg).Track.At.Y)*pl/256:=by rw[hre];rfl
 have rvx:r.Track.Speed.X=f.Track.Speed.X+(16*(s.At.X-f.Last.At.X)/(d:Int)-f.Track.Speed.X)*sp/256:=by rw[hre];rfl
 have rvy:r.Track.Speed.Y=f.Track.Speed.Y+(16*(s.At.Y-f.Last.At.Y)/(d:Int)-f.Track.Speed.Y)*sp/256:=by rw[hre];rfl
 have hkn:Knows r (x (t+d)) (v (t+d)):=by
  refine⟨?_,?_⟩
  ·rw[rx,ry,np];exact kb1
  ·rw[rvx,rvy,nq];exact kb2
 have kab:=hkn.1.abs
 have rh:r.Track.Height=h:=by rw[hre];exact hs.high
 have rrt:r.Track.Rate=0:=by rw[hre];rfl
 have rtm:r.Track.Time=((t+d:Nat):Int):=by rw[hre];exact s1
 have rls:r.Last=s:=by rw[hre];rfl
 have rht:r.Track.Hits=f.Track.Hits+1:=by rw[hre];rfl
 have rcd:r.Track.Code=c:=by rw[hre];exact hs.code
 have hhi:=hg.hits
 have rin:r.In:=by
  refine⟨⟨by rw[rtm];omega,⟨by omega,by omega,by omega,by omega⟩,by rw[rh];exact hh,by rw[rcd];omega,by rw[np];omega⟩,
   by rw[rvx];omega,by rw[rvy];omega,by rw[rrt];decide,by rw[nq];omega,⟨by rw[hre];exact hi.2.2.2.2.2.1.1,by rw[rht];have:=hi.2.2.2.2.2.1.2.1;omega,by rw[hre];show (0:Int)≤0;decide⟩,by rw[hre];exact hi.2.2.2.2.2.2.1,by rw[rls];exact sin,by rw[rls,rtm,s1];exact cO _⟩
 refine⟨r,?_,⟨rin,rtm,by rw[rls,s1],by rw[nq];omega,by rw[np];omega,⟨rh,rrt,by rw[rls];exact hs.high⟩,rcd,by rw[rls];exact se,by rw[rht];omega⟩,hkn,rls,by rw[hre];rfl,by rw[hre];rfl,by rw[hre];rfl⟩
 have e:=IA (f:=f) (s:=s) (qg:=qg) (pl:=pl) (sp:=sp) (d:=(d:Int)) hi sin hpl hsp ⟨by rw[s1,hg.last];omega,by omega,by omega⟩ ⟨ha.1,by omega⟩ ⟨p1,p2,p3⟩ hw (by rw[hs.high,hg.high.2.2]) (by rw[hs.code];omega) (by omega) (by exact⟨by omega,by omega⟩) (by rw[← hre];exact rin)
 rw[e,← hre]
def QC (f:Zq) (k:Nat):P:=⟨f.at_.X+f.speed.X*(k:Int),f.at_.Y+f.speed.Y*(k:Int)⟩
theorem Bz {f:Zq} (h:Jy f):Run (QC f) (fun _=>f.speed) 1 200 where
 acc:=by decide
 vel k _:=by have:=h.vx;have:=h.vy;omega
 pos k hk:=by have:=(G5 h (t:=(k:Int)) (by omega)).2;unfold QC;simp only;omega
 step k _:=by
  unfold QC
  simp only[dI,Int.mul_add,iA]
  omega
 turn k _:=by
  simp only[dD]
  exact Ji.box (b:=0) (by omega) (by omega) (by decide) (by decide)
theorem H7 {f:Zq} (h:Jy f) {k:Nat} (hk:k≤200):Y1 f (k:Int)=QC f k:=(G5 h (by omega)).1
end Go.Sky
end
section
namespace Go.Sky
open Go Go.Eng
inductive KV {α β:Type} (R:α→β→Prop):List α→List β→Prop
 | nil:KV R [] []
 | cons {a:α} {b:β} {as1:List α} {bs:List β}:R a b→KV R as1 bs→KV R (a::as1) (b::bs)
section
variable {α β γ:Type} {R:α→β→Prop}
theorem KV.len {as1:List α} {bs:List β} (h:KV R as1 bs):bs.length=as1.length:=by
 induction h with
 | nil=>rfl
 | cons _ _ ih=>rw[aI,aI,ih]
theorem KV.imp {S:α→β→Prop} {as1:List α} {bs:List β} (h:KV R as1 bs) (hi:∀ a∈as1,∀ b∈bs,R a b→S a b):KV S as1 bs:=by
 induction h with
 | nil=>exact .nil
 | cons h1 _ ih=>exact .cons (hi _ (aJ ..) _ (aJ ..) h1) (ih fun a ha b hb=>hi a (aG _ ha) b (aG _ hb))
theorem KV.right {as1:List α} {bs:List β} (h:KV R as1 bs) {b:β} (hb:b∈bs):∃ a∈as1,R a b:=by
 induction h with
 | nil=>cases hb
 | cons h1 _ ih =>
  rcases bB.1 hb with rfl|hb
  ·exact⟨_,aJ ..,h1⟩
  ·obtain⟨a,h1,h2⟩:=ih hb
   exact⟨a,aG _ h1,h2⟩
theorem KV.left {as1:List α} {bs:List β} (h:KV R as1 bs) {a:α} (ha:a∈as1):∃ b∈bs,R a b:=by
 induction h with
 | nil=>cases ha
 | cons h1 _ ih =>
  rcases bB.1 ha with rfl|ha
  ·exact⟨_,aJ ..,h1⟩
  ·obtain⟨a,h1,h2⟩:=ih ha
   exact⟨a,aG _ h1,h2⟩
theorem KV.mapr {S:α→γ→Prop} {f:β→γ} {as1:List α} {bs:List β} (h:KV R as1 bs) (hi:∀ a∈as1,∀ b∈bs,R a b→S a (f b)):KV S as1 (bs.map f):=by
 induction h with
 | nil=>exact .nil
 | cons h1 _ ih=>exact .cons (hi _ (aJ ..) _ (aJ ..) h1) (ih fun a ha b hb=>hi a (aG _ ha) b (aG _ hb))
theorem KV.maps {f:α→γ} {g:β→γ} {as1:List α} {bs:List β} (h:KV R as1 bs) (hi:∀ a b,R a b→f a=g b):as1.map f=bs.map g:=by
 induction h with
 | nil=>rfl
 | cons h1 _ ih=>rw[dT,dT,hi _ _ h1,ih]
theorem E6 {bs:List β} (h:∀ b∈bs,∃ a,R a b):∃ as1,KV R as1 bs:=by
 induction bs with
 | nil=>exact⟨[],.nil⟩
 | cons b bs ih =>
  obtain⟨a,ha⟩:=h b (aJ ..)
  obtain⟨as1,has⟩:=ih fun b hb=>h b (aG _ hb)
  exact⟨a::as1,.cons ha has⟩
end
def SE (row:List Int) (k:Nat):Prop:=k<row.length∧(0≤gt row k∧gt row k≤1073741824)∧∀ j,j<row.length→j≠k→gt row j<0
def H8:List (List Int)→List Nat→Int
 | row::rows,k::ks=>gt row k+H8 rows ks
 | _,_=>0
theorem E7 {qc:Int} {rows:List (List Int)} {ks:List Nat} (h:KV SE rows ks):∀ taken:List Bool,(∀ k∈ks,gb taken k=false)→ks.Nodup→Val qc rows taken (H8 rows ks):=by
 induction h with
 | nil=>intro taken _ _;exact .nil taken
 | cons h1 _ ih =>
  intro taken ht hn
  rw[gA] at hn
  refine .pick _ h1.1 (ht _ (aJ ..)) h1.2.1.1 (ih _ (fun j hj=>?_) hn.2)
  have hne:=ht j (aG _ hj)
  unfold gb at hne ⊢
  rw[dO (fun e=>hn.1 (by rw[e];exact hj))]
  exact hne
theorem Oh {rows:List (List Int)} {taken:List Bool} {to:List Int} {t:Int} (hp:UW 2147483648 rows taken to t):∀ ks,KV SE rows ks→H8 rows ks≤t∧(t≤H8 rows ks→to=ks.map fun k:Nat=>(k:Int)):=by
 induction hp with
 | nil taken=>intro ks h;cases h;exact⟨cO _,fun _=>rfl⟩
 | skip _ ih =>
  intro ks h
  cases h with
  | cons h1 h2 =>
   have a:=(ih _ h2).1
   have b:=h1.2.1
   unfold H8
   exact⟨by omega,fun _=>by omega⟩
 | pick k h1 h2 h3 _ ih =>
  intro ks h
  cases h with
  | cons g1 g2 =>
   rename_i k' ks'
   have e:k=k':=by
    rcases Nat.decEq k k' with h|h
    ·have:=g1.2.2 k h1 h;omega
    ·exact h
   subst e
   have a:=ih _ g2
   unfold H8
   exact⟨by omega,fun _=>by rw[dT,a.2 (by omega)]⟩
theorem LI {qb:List (List Int)} {ks:List Nat} (hc:Yn qb 2147483648=0) (h:KV SE qb ks) (hn:ks.Nodup):(Y5 qb 2147483648).1=ks.map fun k:Nat=>(k:Int):=by
 obtain⟨to,e,p⟩:=GQ hc
 have l:=(SA hc).2.1 _ (E7 h _ (fun k _=>by
  unfold gb
  rw[dP]
  split <;> rfl) hn)
 rw[e]
 exact(Oh p ks h).2 l
end Go.Sky
end
section
namespace Go.Sky
open Go Go.Eng Go.Glue Go.Srt
def W6 (t:Zi) (r2:List Zj×Int) (time:Int):(List Track)×Int×Zi :=
 YB (cond (decide (t.last≥0)) (YF 60000 (w64 (500+(w64 (200*(w64 (time-t.last))))))) 60000) (fun qi =>
  YB (ZH t time t.all 0 ([]:List Track) ([]:List followed)) (fun (qn,zg) =>
   let r4:=XF qn r2.1 qi
   let r5:=Y5 r4.1 2147483648
   YB (ZI t r2 r5 zg 0 (List.replicate ((r2.1.length:Int).toNat) false) ([]:List followed)) (fun (zw,ja) =>
    YB (ZQ zw r2.1 0 t.next ja) (fun (zx,vq) =>
     let r10:=Z8 (⟨t.rules,vq,zx,time⟩:Zi)
     let r11:=ZR r10 time
     YB (YV r11.all 0 ([]:List Track)) (fun qk=>(qk,0,r11))))))
theorem B0 {t:Zi} {l:List Zj} {time:Int} (h:Yf t l time=0):Zy t l time=W6 t (YP l 500) time:=by
 unfold Zy
 dsimp only
 rw[h,show ((0:Int) != 0)=false from rfl,cond_false]
 rfl
theorem FO {s:Zj} {time:Int} (h:s.In∧s.Time=time):YP [s] 500=([s],0):=by
 rw[Di (time:=time) (by simp) (fun x hx=>by rw[bE.1 hx];exact h),show Gq [s]=[s] from List.mergeSort_singleton ..]
 rfl
theorem Cb:Qs=true:=by
 unfold Qs
 dsimp only
 have h0:Zy (Y7 Yh).1 [(⟨0,⟨0,0⟩,0,5,10⟩:Zj)] 0=W6 (Y7 Yh).1 ([⟨0,⟨0,0⟩,0,5,10⟩],0) 0:=by
  rw[B0 (by kernel_rfl),FO ⟨Jo.1 (by kernel_rfl),rfl⟩]
 rw[h0]
 have h1:Zy (W6 (Y7 Yh).1 ([⟨0,⟨0,0⟩,0,5,10⟩],0) 0).2.2 [(⟨4,⟨0,0⟩,0,5,10⟩:Zj)] 4=W6 (W6 (Y7 Yh).1 ([⟨0,⟨0,0⟩,0,5,10⟩],0) 0).2.2 ([⟨4,⟨0,0⟩,0,5,10⟩],0) 4:=by
  rw[B0 (by kernel_rfl),FO ⟨Jo.1 (by kernel_rfl),rfl⟩]
 rw[h1]
 exact Kr
end Go.Sky
end
section
namespace Go.Sky
open Go Go.Eng Go.Glue Go.Srt
structure Has (f:Zq) (x:Za) (t0:Nat):Prop where
 fol:Fol x t0 f.height f.code
 knows:Knows x (QC f t0) f.speed
 near:Ji (x.Last.At.X-(QC f t0).X) (x.Last.At.Y-(QC f t0).Y) x.Last.Error
def setSt (x:Za) (st mi:Int):Za :=
 ⟨⟨x.Track.ID,st,x.Track.Time,x.Track.At,x.Track.Speed,x.Track.Height,x.Track.Rate,x.Track.Radius,x.Track.Code,x.Track.Hits,mi⟩,x.Slack,x.Last⟩
theorem Has.set {f:Zq} {x:Za} {t0:Nat} (h:Has f x t0) {st mi:Int} (h1:0≤st∧st≤2) (h2:0≤mi):Has f (setSt x st mi) t0:=by
 obtain⟨⟨⟨a1,a2,a3,a4,a5,⟨a6,a7,a8⟩,a9,a10,a11⟩,b1,b2,b3,b4,b5,b6,b7,b8⟩,k,n⟩:=h
 exact⟨⟨⟨a1,a2,a3,a4,a5,⟨a6,a7,h2⟩,h1,a10,a11⟩,b1,b2,b3,b4,b5,b6,b7,b8⟩,k,n⟩
theorem Oi {x:Za} (h:x.In):QH x=(setSt x (if x.Track.State=2 then 1 else x.Track.State) 0,0):=by
 unfold QH setSt
 rw[J4.2 h]
 simp only[XD]
 rw[if_neg (by decide)]
 by_cases hs:x.Track.State=2
 ·rw[if_pos (by simpa using hs),if_pos hs]
 ·rw[if_neg (by simpa using hs),if_neg hs]
theorem UI {l:List Int} (h:l.Nodup) {i j:Nat} {a:Int} (hi:l[i]?=some a) (hj:l[j]?=some a):i=j:=by
 obtain⟨h1,e1⟩:=aK.1 hi
 obtain⟨h2,e2⟩:=aK.1 hj
 have p:=eY.1 h
 rcases gR i j with g|g|g
 ·exact absurd (e1.trans e2.symm) (p i j h1 h2 g)
 ·exact g
 ·exact absurd (e2.trans e1.symm) (p j i h2 h1 g)
theorem G6 {α:Type} {l:List α} {c:α→Int} (h:(l.map c).Nodup) {a b:α} (ha:a∈l) (hb:b∈l) (e:c a=c b):a=b:=by
 obtain⟨i,hi⟩:=cW ha
 obtain⟨j,hj⟩:=cW hb
 have:=UI h (i:=i) (j:=j) (a:=c a) (by rw[aT,hi];rfl) (by rw[aT,hj,e];rfl)
 subst this
 rw[hi] at hj
 exact cT hj
theorem Ds {α β γ:Type} {R:β→γ→Prop} {f:α→β} {g:α→γ}:∀ (xs:List α),(∀ x∈xs,R (f x) (g x))→KV R (xs.map f) (xs.map g)
 | [],_=>.nil
 | x::xs,h=>.cons (h x (aJ ..)) (Ds xs fun y hy=>h y (aG _ hy))
theorem Oj {t:Zi} {time:Int}:∀ (xs:List followed) (k:Nat) (tr:List Track) (al:List followed),(∀ x∈xs,(Z5 x.f time t.rules.Accel).2=0) →
  ZH t time xs k tr al=(tr++xs.map (fun x=>(Z5 x.f time t.rules.Accel).1.Track),al++xs)
 | [],_,tr,al,_=>by unfold ZH;simp
 | x::xs,k,tr,al,h=>by
  unfold ZH
  simp only
  rw[h x (aJ ..),show ((0:Int)==0)=true from rfl,cond_true,Oj xs (k+1) _ _ fun y hy=>h y (aG _ hy)]
  simp
theorem G7 {t:Track} (h:t.In):Yt t=0:=by
 rcases U2 t with ⟨h1,_⟩|⟨_,h1⟩
 ·exact h1
 ·exact absurd h h1
theorem TD {t:Track} {s:Zj} {qi time:Int} (hb:0≤qi∧qi≤60000) (ht:t.In∧t.Time=time) (hs:s.In∧s.Time=time) (hc:t.Code ≠ -1∧s.Code ≠ -1) :
  (X9 t s qi).1=((ZX t.At s.At (w64 (t.Radius+s.Error))&&decide (Vu (w64 (t.Height-s.Height)) (w64 (s.Height-t.Height))≤qi))&&(t.Code==s.Code)):=by
 unfold X9
 rw[G7 ht.1,Jo.2 hs.1]
 simp only[XD]
 rw[if_neg (by decide),if_neg (by decide),if_neg (by simp;omega),if_neg (by rw[ht.2,hs.2];simp)]
 have c1:(t.Code == -1)=false:=by simpa using hc.1
 have c2:(s.Code == -1)=false:=by simpa using hc.2
 rw[c1,c2]
 cases (ZX t.At s.At (w64 (t.Radius+s.Error))&&decide (Vu (w64 (t.Height-s.Height)) (w64 (s.Height-t.Height))≤qi)) <;> cases (t.Code==s.Code) <;> rfl
theorem E8 {t:Track} {q6:List Zj} {qi time:Int} (hb:0≤qi∧qi≤60000) (ht:t.In∧t.Time=time) (hs:Sp time q6) (hc:t.Code ≠ -1) (hcs:∀ s∈q6,s.Code ≠ -1) (hn:(q6.map Zj.Code).Nodup) {k:Nat} {s:Zj}
  (hk:q6[k]?=some s) (he:s.Code=t.Code) (hw:ZX t.At s.At (w64 (t.Radius+s.Error))=true) (hh:t.Height=s.Height):SE (q6.map (Jl t qi)) k:=by
 have hm:=aR hk
 have kl:=(aK.1 hk).1
 have hf:(X9 t s qi).1=true:=by
  rw[TD hb ht (hs s hm) ⟨hc,hcs s hm⟩,hw,hh,dD,he]
  rw[decide_eq_true (show Vu (w64 0) (w64 0)≤qi by rw[show Vu (w64 0) (w64 0)=0 by decide];exact hb.1)]
  simp
 refine⟨by rw[aD];exact kl,?_,fun j hj hjk=>?_⟩
 ·unfold gt
  rw[aT,hk]
  show 0≤Jl t qi s∧Jl t qi s≤1073741824
  unfold Jl
  rw[hf,cond_true]
  have h:=GN ht.1.2.1 (hs s hm).1.2.1
  have h1:0≤ZN t.At s.At/10000∧ZN t.At s.At/10000≤ZN t.At s.At:=WO h.2.1 (by decide)
  rw[UA 10000 h.2.1,Zt (by omega)]
  unfold YF
  split <;> omega
 ·rw[aD] at hj
  have e:=aM hj
  generalize q6[j]=z at e
  have zm:=aR e
  unfold gt
  rw[aT,e]
  show Jl t qi z<0
  have hcc:z.Code≠s.Code:=fun h=>hjk (UI hn (a:=z.Code) (by rw[aT,e];rfl) (by rw[aT,hk,h];rfl))
  have hf:(X9 t z qi).1=false:=by
   rw[TD hb ht (hs z zm) ⟨hc,hcs z zm⟩,show (t.Code==z.Code)=false by simp;omega,iC]
  unfold Jl
  rw[hf,cond_false]
  decide
theorem Dt:∀ (ks:List Nat) (u:List Bool) (j:Nat),j<u.length→(j∈ks∨u[j]?.getD false=true)→(ks.foldl (fun u k=>u.set k true) u)[j]?.getD false=true
 | [],u,j,_,h=>by
  rcases h with h|h
  ·cases h
  ·exact h
 | k::ks,u,j,hj,h=>by
  rw[List.foldl_cons]
  refine Dt ks _ j (by rw[aL];exact hj) ?_
  by_cases e:k=j
  ·subst e;right;rw[dE hj];rfl
  ·rcases h with h|h
   ·rcases bB.1 h with h|h
    ·exact absurd h.symm e
    ·exact .inl h
   ·right;rw[dO e];exact h
theorem Ol {t:Zi} {r2:List Zj×Int} {r5:List Int×Int×Int} (idx:followed→Nat):∀ (xs:List followed) (k:Nat) (used:List Bool) (out:List followed),
  (∀ i x,xs[i]?=some x→r5.1[k+i]?.getD 0=(idx x:Int))→(∀ x∈xs,(Yk x.f (r2.1[idx x]?.getD Zj.zero) t.rules.Accel t.rules.Place t.rules.Speed).2=0) →
  ZI t r2 r5 xs k used out=((xs.map idx).foldl (fun u k=>u.set k true) used,out++xs.map (fun x=>(⟨(QH (Yk x.f (r2.1[idx x]?.getD Zj.zero) t.rules.Accel t.rules.Place t.rules.Speed).1).1,x.history,true⟩:followed)))
 | [],_,used,out,_,_=>by unfold ZI;simp
 | x::xs,k,used,out,h1,h2=>by
  have e:=h1 0 x rfl
  rw[bZ] at e
  unfold ZI
  rw[e,decide_eq_true (show ((idx x:Nat):Int)≥0 by omega),aO]
  simp only
  rw[h2 x (aJ ..),show ((0:Int)==0)=true from rfl]
  simp only[cond_true]
  unfold YB
  simp only[cD,cond_false]
  rw[Ol idx xs (k+1) _ _ (fun i y hi=>by have:=h1 (i+1) y (by rw[bG];exact hi);rwa [show k+1+i=k+(i+1) by omega]) fun y hy=>h2 y (aG _ hy)]
  simp
theorem Om {used:List Bool}:∀ (xs:List Zj) (k:Nat) (next:Int) (out:List followed),(∀ j,k≤j→j<k+xs.length→used[j]?.getD false=true)→ZQ used xs k next out=(next,out)
 | [],_,_,_,_=>rfl
 | x::xs,k,next,out,h=>by
  rw[aI] at h
  unfold ZQ
  rw[h k (aU _) (by omega),Bool.true_or,cond_true]
  exact Om xs (k+1) next out fun j h1 h2=>h j (by omega) (by omega)
def SG (s:Zj) (n:Int):Za:=⟨⟨n,0,s.Time,s.At,⟨0,0⟩,s.Height,0,s.Error,s.Code,1,0⟩,6400,s⟩
theorem FP {used:List Bool} (hu:∀ j:Nat,used[j]?.getD false=false):∀ (xs:List Zj) (k:Nat) (next:Int) (out:List followed),(∀ s∈xs,s.In)→out.length+xs.length≤31→0≤next→next+xs.length≤1000 →
  ∃ (n:Int) (ys:List followed),ZQ used xs k next out=(n,out++ys)∧KV (fun s y=>∃ i:Int,0≤i∧y=(⟨SG s i,⟨0,0⟩,true⟩:followed)) xs ys
 | [],_,next,out,_,_,_,_=>⟨next,[],by unfold ZQ;simp,.nil⟩
 | x::xs,k,next,out,hs,hl,h0,hn=>by
  rw[aI] at hl hn
  obtain⟨n,ys,e,p⟩:=FP hu xs (k+1) (next+1) (out ++ [(⟨SG x next,⟨0,0⟩,true⟩:followed)]) (fun s h=>hs s (aG _ h)) (by rw[aW,eQ];omega) (by omega) (by omega)
  refine⟨n,_::ys,?_,.cons ⟨next,h0,rfl⟩ p⟩
  unfold ZQ
  rw[hu,Bool.false_or,decide_eq_false (by omega),cond_false]
  unfold Y8
  rw[Jo.2 (hs x (aJ ..))]
  simp only[bne_self_eq_false,cond_false]
  rw[Zt (by omega)]
  have e2:=e
  unfold SG at e2
  rw[e2]
  simp[SG]
theorem Du {t:Zi} (c:followed→followed):∀ (xs:List followed) (k:Nat) (out:List followed),(∀ x∈xs,∀ (ys:List followed) (k:Nat) (out:List followed),Z7 t (x::ys) k out=Z7 t ys (k+1) (out ++ [c x])) →
  Z7 t xs k out=out++xs.map c
 | [],_,out,_=>by unfold Z7;simp
 | x::xs,k,out,h=>by
  rw[h x (aJ ..),Du c xs (k+1) _ fun y hy=>h y (aG _ hy)]
  simp
theorem NK {time:Int}:∀ (xs:List followed) (k:Nat) (out:List Za),YU time xs k out=out++(xs.filter (fun x=>x.f.Track.Time==time)).map (fun x=>x.f)
 | [],_,out=>by unfold YU;simp
 | x::xs,k,out=>by
  unfold YU
  cases h:(x.f.Track.Time==time)
  ·rw[cond_false,NK xs (k+1) out,List.filter_cons_of_neg (by rw[h];decide)]
  ·rw[cond_true,NK xs (k+1) _,List.filter_cons_of_pos (by exact h)];simp
theorem LJ:∀ (xs:List Za) (k:Nat),(∀ x∈xs,x.In)→JX xs k=.inl ()
 | [],_,_=>rfl
 | x::xs,k,h=>by
  unfold JX
  rw[J4.2 (h x (aJ ..))]
  exact LJ xs (k+1) fun y hy=>h y (aG _ hy)
theorem LK {l:List Za} {qi:Int} {k2:Nat} {x:Za}:∀ (xs:List Za) (k:Nat),(∀ i y,xs[i]?=some y→k+i≠k2→x.Track.Code≠y.Track.Code)→Q5 l qi k2 x xs k true=true
 | [],_,_=>rfl
 | y::xs,k,h=>by
  have ih:=LK (l:=l) (qi:=qi) (k2:=k2) (x:=x) xs (k+1) fun i z hz hk=>h (i+1) z (by rw[bG];exact hz) (by omega)
  unfold Q5
  by_cases hk:k=k2
  ·subst hk
   rw[show ((k:Int) != (k:Int))=false by simp,cond_false];exact ih
  ·have:=h 0 y rfl (by omega)
   rw[show ((k:Int) != (k2:Int))=true by simp;omega,cond_true]
   simp only
   rw[show (x.Track.Code==y.Track.Code)=false by simpa using this,iC,gL,cond_false];exact ih
theorem LL {l:List Za} {qi:Int} (hn:(l.map fun x=>x.Track.Code).Nodup):∀ (xs:List Za) (k:Nat) (out:List Za),l.drop k=xs→QU l qi xs k out=out++xs
 | [],_,out,_=>by unfold QU;simp
 | x::xs,k,out,hd=>by
  obtain⟨d1,d2,d3⟩:=GP hd
  unfold QU YB
  rw[LK l 0 fun i y hy hk he=>?_]
  ·simp only[cond_true]
   rw[LL hn xs (k+1) _ d1];simp
  ·have:=UI hn (i:=i) (j:=k) (a:=y.Track.Code) (by rw[aT,hy];rfl) (by rw[aT,d2,← he];rfl)
   omega
theorem On {l:List Za} (hl:l.length≤32) (hi:∀ x∈l,x.In) (hn:(l.map fun x=>x.Track.Code).Nodup):XO l 500=(l,0):=by
 unfold XO
 rw[decide_eq_false (by omega),cond_false,LJ l 0 hi]
 simp only[Sum.elim_inl]
 rw[show Vd 500=false from rfl,cond_false]
 unfold YB
 rw[LL hn l 0 [] eE]
 rfl
theorem Iz {x:followed}:∀ (l:List Za) (k:Nat),x.f∈l→∃ j:Nat,J5 x l k=.inr (j:Int)
 | [],_,h=>by cases h
 | y::l,k,h=>by
  unfold J5
  simp only
  cases hc:X8 y x with
  | true=>exact⟨k,rfl⟩
  | false =>
   rcases bB.1 h with rfl|h
   ·unfold X8 at hc
    simp at hc
   ·exact Iz l (k+1) h
theorem FQ {t:Zi} {time:Int} (hl:t.all.length≤32) (hi:∀ x∈t.all,x.f.In) (hn:(t.all.map fun x=>x.f.Track.Code).Nodup):ZR t time=t:=by
 unfold ZR YB
 rw[NK,bK]
 have ka:(t.all.filter (fun x=>x.f.Track.Time==time)).Sublist t.all:=List.filter_sublist
 have e:=On (l:=(t.all.filter (fun x=>x.f.Track.Time==time)).map (fun x=>x.f)) (by rw[aD];exact bL ka.length_le hl)
  (fun x hx=>by obtain⟨y,hy,rfl⟩:=bD.1 hx;exact hi y (ka.mem hy)) (by
   rw[eL]
   exact fO (ka.map _) hn)
 simp only
 rw[e,FK _ _ _ (by omega),gC.2 (fun x hx=>?_)]
 unfold ZJ
 cases h:(x.f.Track.Time==time) with
 | false=>rfl
 | true =>
  simp only[cond_true]
  unfold Kz KL
  obtain⟨j,hj⟩:=Iz (x:=x) ((t.all.filter (fun x=>x.f.Track.Time==time)).map (fun x=>x.f)) 0 (bD.2 ⟨x,fZ.2 ⟨hx,h⟩,rfl⟩)
  simp only
  rw[hj]
  simp
end Go.Sky
end
section
namespace Go.Sky
open Go Go.Eng Go.Glue Go.Srt
theorem VT {f:Zq} (h:Jy f):(0≤f.height∧f.height≤60000)∧(0≤f.code∧f.code≤4095):=by
 have:=h.h;have:=h.c;omega
theorem Uc {f:Zq} (h:Jy f) {k:Nat} (hk:k≤200):(-112000≤(QC f k).X∧(QC f k).X≤112000)∧(-112000≤(QC f k).Y∧(QC f k).Y≤112000):=(Bz h).pos k hk
def OfF (gs:List Zq) (T:Nat) (s:Zj):Prop:=∃ f∈gs,UX s (T:Int) f.height f.code (QC f T)
theorem UY {gs:List Zq} (hf:∀ f∈gs,Jy f) {T:Nat} (hT:T≤200) {s:Zj} (h:OfF gs T s):s.In∧s.Time=(T:Int)∧s.Code ≠ -1:=by
 obtain⟨f,h1,h2⟩:=h
 have a:=VT (hf f h1)
 exact⟨GR h2 (by omega) a.1 (by omega) (Uc (hf f h1) hT),h2.time,by rw[h2.code];omega⟩
theorem SH {a b:Zj} {qi:Int} (h:a.Code≠b.Code):Qo a b qi=false:=by
 unfold Qo
 rw[show (a.Code==b.Code)=false by simpa using h,iC,gL,cond_false]
theorem Oo {gs:List Zq} (hf:∀ f∈gs,Jy f) (hn:(gs.map fun f=>f.code).Nodup) {T:Nat} (hT:T≤200) {a b:Zj} (ha:OfF gs T a) (hb:OfF gs T b) (hc:a.Code=b.Code):Qo a b 500=true:=by
 have ia:=UY hf hT ha
 have ib:=UY hf hT hb
 obtain⟨f,h1,h2⟩:=ha
 obtain⟨g,h3,h4⟩:=hb
 have e:f=g:=G6 (c:=fun f=>f.code) hn h1 h3 (by rw[← h2.code,← h4.code];exact hc)
 subst e
 have ea:=h2.err
 have eb:=h4.err
 have w:ZX a.At b.At (w64 (a.Error+b.Error))=true:=by
  rw[Zt (by omega),within_iff ia.1.2.1 ib.1.2.1 (by omega),decide_eq_true_eq]
  have q:=h2.near.add h4.near.neg
  refine⟨by omega,?_⟩
  have q2:=q.2
  rw[show a.At.X-(QC f T).X + -(b.At.X-(QC f T).X)=a.At.X-b.At.X by omega,show a.At.Y-(QC f T).Y + -(b.At.Y-(QC f T).Y)=a.At.Y-b.At.Y by omega] at q2
  exact q2
 unfold Qo
 rw[show (a.Time==b.Time)=true by rw[ia.2.1,ib.2.1];simp,show (a.Code==b.Code)=true by simpa using hc,show (a.Code != -1)=true by simpa using ia.2.2]
 simp only[Bool.and_true,cond_true]
 rw[w,cond_true,h2.high,h4.high]
 unfold Vz
 rw[dD]
 rfl
theorem Ws {c0:Zj} {c1:Int}:∀ (xs:List Zj) (k:Nat),(∀ y∈xs,Qo y c0 c1=false)→XZ c0 c1 xs k=.inl ()
 | [],_,_=>rfl
 | x::xs,k,h=>by
  unfold XZ
  simp only
  rw[show KN x c0 c1=Qo x c0 c1 from rfl,h x (aJ ..),cond_false]
  exact Ws xs (k+1) fun y hy=>h y (aG _ hy)
theorem Wt {c0:Zj} {c1:Int} {y:Zj} (hy:Qo y c0 c1=true):∀ (xs:List Zj) (k:Nat),y∈xs→∃ j:Nat,XZ c0 c1 xs k=.inr (j:Int)
 | [],_,h=>by cases h
 | x::xs,k,h=>by
  unfold XZ
  simp only
  rw[show KN x c0 c1=Qo x c0 c1 from rfl]
  cases hx:Qo x c0 c1 with
  | true=>exact⟨k,rfl⟩
  | false =>
   rw[cond_false]
   rcases bB.1 h with rfl|h
   ·rw[hy] at hx;cases hx
   ·exact Wt hy xs (k+1) h
theorem NL {gs:List Zq} (hf:∀ f∈gs,Jy f) (hn:(gs.map fun f=>f.code).Nodup) {T:Nat} (hT:T≤200):∀ (xs:List Zj) (k:Nat) (out:List Zj),(∀ s∈out,OfF gs T s)→(∀ s∈xs,OfF gs T s)→(out.map Zj.Code).Nodup →
  ∃ r,Qc 500 xs k out=r∧(∀ s∈r,OfF gs T s)∧r.length≤out.length+xs.length∧(r.map Zj.Code).Nodup∧(∀ s∈out,s∈r)∧∀ s∈xs,∃ z∈r,z.Code=s.Code
 | [],_,out,h1,_,h3=>⟨out,rfl,h1,aU _,h3,fun _ h=>h,fun _ h=>by cases h⟩
 | x::xs,k,out,h1,h2,h3=>by
  have hx:=h2 x (aJ ..)
  have hxs:=fun s hs=>h2 s (aG _ hs)
  unfold Qc
  simp only
  by_cases hc:∃ y∈out,y.Code=x.Code
  ·obtain⟨y,hy,hyc⟩:=hc
   obtain⟨j,hj⟩:=Wt (Oo hf hn hT (h1 y hy) hx hyc) out 0 hy
   rw[show XL out x 500=true by unfold XL Jw;simp only;rw[hj];simp]
   rw[cD,cond_false]
   obtain⟨r,e,r1,r2,r3,r4,r5⟩:=NL hf hn hT xs (k+1) out h1 hxs h3
   refine⟨r,e,r1,by rw[aI];omega,r3,r4,fun s hs=>?_⟩
   rcases bB.1 hs with rfl|hs
   ·exact⟨y,r4 y hy,hyc⟩
   ·exact r5 s hs
  ·have hc:∀ y∈out,y.Code≠x.Code:=fun y hy e=>hc ⟨y,hy,e⟩
   rw[show XL out x 500=false by unfold XL Jw;simp only;rw[Ws out 0 fun y hy=>SH (hc y hy)];rfl]
   rw[eF,cond_true]
   obtain⟨r,e,r1,r2,r3,r4,r5⟩:=NL hf hn hT xs (k+1) (out ++ [x]) (fun s hs=>by
    rcases bO.1 hs with hs|hs
    ·exact h1 s hs
    ·rw[bE.1 hs];exact hx) hxs (by
    rw[eN,List.map_singleton]
    refine cX.2 ⟨h3,List.pairwise_singleton _ _,fun a ha b hb=>?_⟩
    rw[bE.1 hb]
    obtain⟨y,hy,rfl⟩:=bD.1 ha
    exact hc y hy)
   refine⟨r,e,r1,by rw[aI];rw[aW,eQ] at r2;omega,r3,fun s hs=>r4 s (bO.2 (.inl hs)),fun s hs=>?_⟩
   rcases bB.1 hs with rfl|hs
   ·exact⟨s,r4 s (bO.2 (.inr (bE.2 rfl))),rfl⟩
   ·exact r5 s hs
theorem Dv {gs:List Zq} (hf:∀ f∈gs,Jy f) (hn:(gs.map fun f=>f.code).Nodup) {T:Nat} (hT:T≤200) {l:List Zj} (hl:l.length≤31) (h:∀ s∈l,OfF gs T s) :
  ∃ r,YP l 500=(r,0)∧r.length≤31∧(∀ s∈r,OfF gs T s)∧(r.map Zj.Code).Nodup∧∀ s∈l,∃ z∈r,z.Code=s.Code:=by
 have hp:(Gq l).Perm l:=gD ..
 obtain⟨r,e,r1,r2,r3,_,r5⟩:=NL hf hn hT (Gq l) 0 [] (fun _ h=>by cases h) (fun s hs=>h s (hp.mem_iff.1 hs)) .nil
 refine⟨r,?_,by rw[hp.length_eq,dQ] at r2;omega,r1,r3,fun s hs=>r5 s (hp.mem_iff.2 hs)⟩
 rw[Di (by omega) (fun s hs=>by have:=UY hf hT (h s hs);exact⟨this.1,this.2.1⟩),e]
theorem E9 {last T:Int} (h:-1≤last) (h2:last<T) (h3:T≤200):∃ b:Int,(Unit→(cond (decide (last≥0)) (YF 60000 (w64 (500+(w64 (200*(w64 (T-last))))))) 60000)=b)∧0≤b∧b≤60000:=by
 refine⟨_,fun _=>rfl,?_⟩
 rw[Zt (x:=T-last) (by omega),Zt (x:=200*_) (by omega),Zt (by omega)]
 unfold YF
 cases decide (last≥0)
 ·exact⟨(by decide:(0:Int)≤60000),cO _⟩
 ·simp only[cond_true]
  split <;> omega
theorem Cc {tr:List Track} {q6:List Zj} {qi time:Int} (h1:tr.length≤32) (h2:q6.length≤32) (ht:Tr time tr) (hs:Sp time q6):Yn (tr.map (fun t=>q6.map (Jl t qi))) 2147483648=0:=by
 have ug:∀ r∈tr.map (fun t=>q6.map (Jl t qi)),r.length=q6.length:=by
  intro r hr
  obtain⟨t,_,rfl⟩:=bD.1 hr
  exact aD ..
 unfold Yn
 rw[show decide (((tr.map (fun t=>q6.map (Jl t qi))).length:Int)>32)=false by rw[aD];simp;omega,cond_false,NF h2 (fun hne=>?_) _ 0 (fun r hr=>⟨hr,ug r hr,fun c hc=>?_⟩)]
 ·rfl
 ·cases hm:tr with
  | nil=>rw[hm] at hne;exact absurd rfl hne
  | cons a b=>simp
 ·obtain⟨t,ht',rfl⟩:=bD.1 hr
  obtain⟨s,hs',rfl⟩:=bD.1 hc
  exact TB (ht t ht').1 (hs s hs').1
def Oq (x:followed):Prop:=(x.f.Track.State=0∧x.history=⟨1,1⟩)∨x.f.Track.State=1∨x.f.Track.State=2
structure Trk (gs:List Zq) (t:Zi) (t0:Nat) (S:followed→Prop):Prop where
 rules:t.rules=Yh
 all:KV (fun f x=>Has f x.f t0∧S x) gs t.all
theorem Dw {gs:List Zq} {xs:List followed} {t0:Nat} {S:followed→Prop} (h:KV (fun f x=>Has f x.f t0∧S x) gs xs):xs.map (fun x=>x.f.Track.Code)=gs.map fun f=>f.code :=
 (h.maps (f:=fun f=>f.code) (g:=fun x=>x.f.Track.Code) fun _ _ hx=>hx.1.fol.code.symm).symm
set_option maxHeartbeats 1000000 in
theorem Ot {gs:List Zq} (hf:∀ f∈gs,Jy f) (hn:(gs.map fun f=>f.code).Nodup) (hg:gs.length≤31) {t:Zi} {t0 T:Nat} (h:Trk gs t t0 Oq) (hl:-1≤t.last∧t.last<(T:Int)) (hd:t0+4≤T∧T≤t0+20) (hT:T≤60)
  {l:List Zj} (hlen:l.length≤31) (hs:∀ s∈l,OfF gs T s) (hc:∀ f∈gs,∃ s∈l,s.Code=f.code) :
  ∃ r:Zi,Zy t l (T:Int)=(r.all.map (fun x=>x.f.Track),0,r)∧Trk gs r T (fun x=>x.f.Track.State=1∧x.f.Track.Misses=0)∧r.last=(T:Int)∧ids r.all=ids t.all:=by
 obtain⟨hr,ha⟩:=h
 have e0:(⟨2,3,4,1,160,128⟩:ZB)=t.rules:=by rw[hr];rfl
 have yp:t.rules.Accel=1:=by rw[← e0]
 have hpl:t.rules.Place=160:=by rw[← e0]
 have hsp:t.rules.Speed=128:=by rw[← e0]
 obtain⟨sp,f1,f2,f3,f4,f5⟩:=Dv hf hn (T:=T) (by omega) hlen hs
 obtain⟨qi,b1,b2⟩:=E9 hl.1 hl.2 (by omega)
 have sw:=Dw ha
 have hal:=ha.len
 have hSp:Sp (T:Int) sp:=fun s h=>by have:=UY hf (by omega) (f3 s h);exact⟨this.1,this.2.1⟩
 have nt:Sp (T:Int) l:=fun s h=>by have:=UY hf (by omega) (hs s h);exact⟨this.1,this.2.1⟩
 obtain⟨d,rfl⟩:∃ d,T=t0+d:=⟨T-t0,by omega⟩
 obtain⟨idx,s5⟩:∃ idx:followed→Nat,idx=fun x=>sp.findIdx (fun s=>s.Code==x.f.Track.Code):=⟨_,rfl⟩
 have own:∀ x∈t.all,∃ f∈gs,Has f x.f t0∧Oq x∧∃ s,sp[idx x]?=some s∧UX s ((t0+d:Nat):Int) f.height f.code (QC f (t0+d)):=fun x hx=>by
  obtain⟨f,hff,hh,hst⟩:=ha.right hx
  obtain⟨s,s1,s2⟩:=hc f hff
  obtain⟨z,z1,z2⟩:=f5 s s1
  have hlt:idx x<sp.length:=by
   rw[s5]
   exact List.findIdx_lt_length_of_exists ⟨z,z1,by rw[z2,s2,hh.fol.code];simp⟩
  have hcd:(sp[idx x]).Code=x.f.Track.Code:=by
   subst s5
   have:=List.findIdx_getElem (xs:=sp) (p:=fun s=>s.Code==x.f.Track.Code) (w:=hlt)
   simpa using this
  refine⟨f,hff,hh,hst,sp[idx x],aM hlt,?_⟩
  obtain⟨g,g1,g2⟩:=f3 _ (cQ hlt)
  have:g=f:=G6 (c:=fun f=>f.code) hn g1 hff (by rw[← g2.code,hcd,hh.fol.code])
  rwa [this] at g2
 have pred:∀ x∈t.all,(Z5 x.f ((t0+d:Nat):Int) 1).2=0∧(Z5 x.f ((t0+d:Nat):Int) 1).1.In∧(Z5 x.f ((t0+d:Nat):Int) 1).1.Track.Time=((t0+d:Nat):Int)∧SE (sp.map (Jl (Z5 x.f ((t0+d:Nat):Int) 1).1.Track qi)) (idx x):=fun x hx=>by
  obtain⟨f,hff,hh,hst,s,s1,s2⟩:=own x hx
  have fi:=VT (hf f hff)
  obtain⟨p1,p2,p3,p4,p5,p6⟩:=Dp (Bz (hf f hff)) (by decide) fi.1 hh.fol hh.knows (d:=d) (by omega) (by omega) (by omega) (by omega)
  have hw:=Dq (Bz (hf f hff)) (by decide) fi.1 fi.2 hh.fol hh.knows (d:=d) (by omega) (by omega) (by omega) (by omega) s2
  have hcd:(YM x.f ((t0+d:Nat):Int) 1).Track.Code=f.code:=hh.fol.code
  rw[p2]
  refine⟨p1,p3,rfl,E8 b2 ⟨p3.1,rfl⟩ hSp (by rw[hcd];omega) (fun s h=>(UY hf (by omega) (f3 s h)).2.2) f4 s1 (by rw[s2.code,hcd]) hw (by rw[p6,s2.high])⟩
 have upd:∀ f x,x∈t.all→f∈gs→Has f x.f t0→Oq x→∃ r,Yk x.f (sp[idx x]?.getD Zj.zero) 1 160 128=(r,0)∧Has f r (t0+d)∧r.Track.ID=x.f.Track.ID∧r.Track.State=x.f.Track.State:=fun f x hx hff hh hst=>by
  obtain⟨g,g1,g2,_,s,s1,s2⟩:=own x hx
  have:g=f:=G6 (c:=fun f=>f.code) hn g1 hff (by rw[← g2.fol.code,hh.fol.code])
  subst this
  have fi:=VT (hf g g1)
  obtain⟨r,r1,r2,r3,r4,r5,r6,_⟩:=E5 (Bz (hf g g1)) (by decide) fi.1 fi.2 hh.fol hh.knows hh.near (d:=d) (by omega) (by omega) (by omega) s2 (pl:=160) (sp:=128) (by decide) (by decide)
  rw[s1,cV]
  exact⟨r,r1,⟨r2,r3,by rw[r4];exact s2.near⟩,r5,r6⟩
 have hTr:Tr ((t0+d:Nat):Int) (t.all.map (fun x=>(Z5 x.f ((t0+d:Nat):Int) 1).1.Track)):=fun y hy=>by
  obtain⟨x,hx,rfl⟩:=bD.1 hy
  have:=pred x hx
  exact⟨this.2.1.1,this.2.2.1⟩
 have hks:(t.all.map idx).Nodup:=by
  have:((t.all.map idx).map fun k=>(sp[k]?.getD Zj.zero).Code)=t.all.map (fun x=>x.f.Track.Code):=by
   rw[eL]
   refine dR fun x hx=>?_
   obtain⟨f,_,hh,_,s,s1,s2⟩:=own x hx
   show (sp[idx x]?.getD Zj.zero).Code=_
   rw[s1,cV,s2.code,hh.fol.code]
  rw[sw] at this
  have hn2:=hn
  rw[← this] at hn2
  exact eW _ (fun a b hab e=>hab (by rw[e])) hn2
 have fp:=LH (by rw[aD];omega) (by omega) b2 hTr hSp
 have hck:=Cc (qi:=qi) (by rw[aD];omega) (by omega) hTr hSp
 have s6:=LI (ks:=t.all.map idx) hck (by
  rw[eL]
  exact Ds t.all fun x hx=>(pred x hx).2.2.2) hks
 rw[B0 (G2.2 ⟨by omega,by omega,hl.2,nt⟩),f1]
 unfold W6
 rw[b1 ()]
 unfold YB
 simp only
 rw[Oj t.all 0 [] [] (fun x hx=>by rw[yp];exact(pred x hx).1)]
 simp only[bK]
 rw[yp,fp]
 simp only
 rw[Ol idx t.all 0 _ [] (fun i x hi=>by
   rw[s6,bY,aT,aT,hi];rfl) (fun x hx=>by
   obtain⟨f,hff,hh,hst⟩:=ha.right hx
   obtain⟨r,r1,_⟩:=upd f x hx hff hh hst
   rw[yp,hpl,hsp,r1])]
 simp only[bK]
 rw[yp,hpl,hsp]
 obtain⟨u,hu⟩:∃ u:followed→followed,u=fun x=>(⟨(QH (Yk x.f (sp[idx x]?.getD Zj.zero) 1 160 128).1).1,x.history,true⟩:followed):=⟨_,rfl⟩
 rw[← hu]
 have hA:KV (fun f y=>Has f y.f (t0+d)∧((y.f.Track.State=0∧y.history=⟨1,1⟩)∨y.f.Track.State=1)∧y.f.Track.Misses=0∧y.hit=true) gs (t.all.map u):=ha.mapr fun f hff x hx hh=>by
  obtain⟨r,r1,r2,r3,r4⟩:=upd f x hx hff hh.1 hh.2
  rw[hu]
  simp only
  rw[r1,Oi r2.fol.inn]
  refine⟨r2.set (by split;decide;exact r2.fol.inn.2.2.2.2.2.2.1) (by decide),?_,by first|rfl|trivial,by first|rfl|trivial⟩
  show ((if r.Track.State=2 then 1 else r.Track.State)=0∧_)∨(if r.Track.State=2 then 1 else r.Track.State)=1
  rw[r4]
  rcases hh.2 with h|h|h
  ·left;rw[if_neg (by omega)];exact h
  ·right;rw[if_neg (by omega)];exact h
  ·right;rw[if_pos h]
 have hids:ids (t.all.map u)=ids t.all:=by
  unfold ids
  rw[eL]
  refine dR fun x hx=>?_
  obtain⟨f,hff,hh,hst⟩:=ha.right hx
  obtain⟨r,r1,r2,r3,r4⟩:=upd f x hx hff hh hst
  show (u x).f.Track.ID=_
  rw[hu]
  simp only
  rw[r1,Oi r2.fol.inn]
  exact r3
 clear hu
 rw[Om sp 0 _ _ (fun j _ hj=>by
  refine Dt _ _ j (by rw[bA,aO];omega) (.inl ?_)
  have ej:=aM (show j<sp.length by omega)
  obtain⟨g,g1,g2⟩:=f3 _ (cQ (show j<sp.length by omega))
  obtain⟨x,hx,hh,hst⟩:=ha.left g1
  obtain⟨g',g1',g2',_,s,s1,s2⟩:=own x hx
  refine bD.2 ⟨x,hx,UI f4 (a:=g.code) ?_ ?_⟩
  ·rw[aT,s1];show some s.Code=_;rw[s2.code,← g2'.fol.code,hh.fol.code]
  ·rw[aT,ej];show some (sp[j]).Code=_;rw[g2.code])]
 simp only
 obtain⟨c,hcd⟩:∃ c:followed→followed,c=fun y=>if y.f.Track.State=0 then (⟨setSt y.f 1 y.f.Track.Misses,(JM y.history y.hit 2 3).1,y.hit⟩:followed) else y:=⟨_,rfl⟩
 have fy:Z8 (⟨t.rules,t.all.map u,t.next,((t0+d:Nat):Int)⟩:Zi)=⟨t.rules,(t.all.map u).map c,t.next,((t0+d:Nat):Int)⟩:=by
  unfold Z8 YB
  rw[Du c _ 0 [] (fun y hy ys k out=>?_)]
  ·rfl
  ·obtain⟨f,hff,hh,hst,_,hhit⟩:=hA.right hy
   rw[Z7,hcd]
   simp only
   rw[show t.rules.Need=2 by rw[← e0],show t.rules.Of=3 by rw[← e0]]
   rcases hst with ⟨h1,h2⟩|h1
   ·rw[show (y.f.Track.State==0)=true by simpa using h1,cond_true,if_pos h1,h2,hhit]
    rfl
   ·rw[show (y.f.Track.State==0)=false by rw[h1];rfl,cond_false,if_neg (by omega)]
 rw[fy]
 have hB:KV (fun f y=>Has f y.f (t0+d)∧y.f.Track.State=1∧y.f.Track.Misses=0) gs ((t.all.map u).map c):=hA.mapr fun f hff y hy hh=>by
  rw[hcd]
  simp only
  split
  ·refine⟨hh.1.set (by decide) (by rw[hh.2.2.1];decide),rfl,hh.2.2.1⟩
  ·rename_i h0
   rcases hh.2.1 with h|h
   ·exact absurd h.1 h0
   ·exact⟨hh.1,h,hh.2.2.1⟩
 have i6:ids ((t.all.map u).map c)=ids t.all:=by
  rw[← hids]
  unfold ids
  rw[eL]
  refine dR fun y hy=>?_
  show (c y).f.Track.ID=_
  rw[hcd]
  simp only
  split <;> rfl
 rw[FQ (by show ((t.all.map u).map c).length≤32;rw[aD,aD];omega) (fun y hy=>by obtain⟨f,_,hh⟩:=hB.right hy;exact hh.1.fol.inn) (by
  show (((t.all.map u).map c).map fun x=>x.f.Track.Code).Nodup
  rw[Dw hB];exact hn)]
 simp only
 rw[WX,bK]
 exact⟨⟨t.rules,(t.all.map u).map c,t.next,((t0+d:Nat):Int)⟩,rfl,⟨hr,hB⟩,rfl,i6⟩
end Go.Sky
end
section
namespace Go.Sky
open Go Go.Eng Go.Glue Go.Srt
theorem Trk.weak {gs:List Zq} {t:Zi} {t0:Nat} {S S':followed→Prop} (h:Trk gs t t0 S) (hi:∀ x,S x→S' x):Trk gs t t0 S':=⟨h.rules,h.all.imp fun _ _ _ _ hh=>⟨hh.1,hi _ hh.2⟩⟩
theorem EA {f:Zq} (hf:Jy f) {s:Zj} (hs:UX s ((0:Nat):Int) f.height f.code (QC f 0)) {n:Int} (hn:0≤n):Has f (SG s n) 0:=by
 have fi:=VT hf
 obtain⟨b1,b2,b3,b4,b5⟩:=GR hs (by decide) fi.1 (by omega) (Uc hf (by decide))
 have e:=hs.err
 have vx:=hf.vx;have vy:=hf.vy
 refine⟨⟨⟨⟨b1,b2,b3,b4,b5.1,?_⟩,(show (-12800:Int)≤0∧(0:Int)≤12800 by decide),(show (-12800:Int)≤0∧(0:Int)≤12800 by decide),(show (-3200:Int)≤0∧(0:Int)≤3200 by decide),(show (0:Int)≤6400∧(6400:Int)≤409600 by decide),⟨hn,(show (0:Int)≤1 by decide),cO _⟩,(show (0:Int)≤0∧(0:Int)≤2 by decide),⟨b1,b2,b3,b4,b5⟩,cO _⟩,
  hs.time,hs.time,(show (6400:Int)≤10402+100*((0:Nat):Int) by decide),?_,⟨hs.high,rfl,hs.high⟩,hs.code,e,(show (1:Int)≤((0:Nat):Int)+1 by decide)⟩,⟨hs.near,?_⟩,hs.near⟩
 ·show s.Error≤4000000;omega
 ·show s.Error≤1000+1100*((0:Nat):Int);omega
 ·show Ji (0-16*f.speed.X) (0-16*f.speed.Y) 6400
  exact Ji.box (b:=3200) (by omega) (by omega) (by decide) (by decide)
set_option maxHeartbeats 1000000 in
theorem Cd {fs:List Zq} (hf:∀ f∈fs,Jy f) (hn:(fs.map fun f=>f.code).Nodup) {t:Zi} (ht:t=⟨Yh,[],0,-1⟩)
  {l:List Zj} (hlen:l.length≤31) (hs:∀ s∈l,OfF fs 0 s) (hc:∀ f∈fs,∃ s∈l,s.Code=f.code) :
  ∃ (r:Zi) (gs:List Zq),Zy t l 0=(r.all.map (fun x=>x.f.Track),0,r)∧gs.Perm fs∧Trk gs r 0 (fun x=>x.f.Track.State=0∧x.history=⟨1,1⟩)∧r.last=0:=by
 obtain⟨sp,f1,f2,f3,f4,f5⟩:=Dv hf hn (T:=0) (by omega) hlen hs
 have hSp:Sp 0 sp:=fun s h=>by have:=UY hf (by omega) (f3 s h);exact⟨this.1,this.2.1⟩
 have nt:Sp 0 l:=fun s h=>by have:=UY hf (by omega) (hs s h);exact⟨this.1,this.2.1⟩
 obtain⟨gs,hgs⟩:∃ gs:List Zq,KV (fun f s=>f∈fs∧UX s ((0:Nat):Int) f.height f.code (QC f 0)) gs sp:=E6 fun s h=>by
  obtain⟨f,g1,g2⟩:=f3 s h
  exact⟨f,g1,g2⟩
 have tu:gs.map (fun f=>f.code)=sp.map Zj.Code:=hgs.maps fun f s h=>h.2.code.symm
 have gn:(gs.map fun f=>f.code).Nodup:=by rw[tu];exact f4
 have te:∀ f∈gs,f∈fs:=fun f h=>by obtain⟨s,_,h1,_⟩:=hgs.left h;exact h1
 have perm:gs.Perm fs:=by
  refine(List.perm_ext_iff_of_nodup (eW _ (fun a b hab e=>hab (by rw[e])) gn) (eW _ (fun a b hab e=>hab (by rw[e])) hn)).2 fun f=>⟨te f,fun hff=>?_⟩
  obtain⟨s,s1,s2⟩:=hc f hff
  obtain⟨z,z1,z2⟩:=f5 s s1
  obtain⟨g,g1,g2,g3⟩:=hgs.right z1
  have:g=f:=G6 (c:=fun f=>f.code) hn g2 hff (by rw[← g3.code,z2,s2])
  rwa [← this]
 subst ht
 rw[B0 (G2.2 ⟨by omega,by decide,by decide,nt⟩),f1]
 unfold W6
 unfold YB
 simp only
 rw[show (cond (decide ((-1:Int)≥0)) (YF 60000 (w64 (500+(w64 (200*(w64 (0 - -1))))))) 60000)=60000 by decide]
 rw[show ZH ⟨Yh,[],0,-1⟩ 0 [] 0 ([]:List Track) ([]:List followed)=([],[]) by unfold ZH;rfl]
 simp only
 generalize Y5 (XF [] sp 60000).1 2147483648=r5
 rw[show ZI ⟨Yh,[],0,-1⟩ (sp,0) r5 [] 0 (List.replicate ((sp.length:Int).toNat) false) ([]:List followed)=(List.replicate ((sp.length:Int).toNat) false,[]) by unfold ZI;rfl]
 simp only
 obtain⟨n,ys,e,p⟩:=FP (used:=List.replicate ((sp.length:Int).toNat) false) (fun j=>by
  rw[dP];split <;> rfl) sp 0 0 [] (fun s h=>(hSp s h).1) (by rw[dQ];omega) (by decide) (by omega)
 rw[e,bK]
 simp only
 obtain⟨c,hcd⟩:∃ c:followed→followed,c=fun y=>(⟨y.f,⟨1,1⟩,true⟩:followed):=⟨_,rfl⟩
 have fy:Z8 (⟨Yh,ys,n,0⟩:Zi)=⟨Yh,ys.map c,n,0⟩:=by
  unfold Z8 YB
  rw[Du c _ 0 [] (fun y hy zs k out=>?_)]
  ·rfl
  ·obtain⟨s,hs,i,h0,rfl⟩:=p.right hy
   have hst:JM ⟨0,0⟩ true 2 3=(⟨1,1⟩,0,0):=by kernel_rfl
   rw[Z7,hcd]
   dsimp only[SG,Yh]
   rw[hst]
   rfl
 rw[fy]
 have hB:KV (fun f y=>Has f y.f 0∧y.f.Track.State=0∧y.history=⟨1,1⟩) gs (ys.map c):=by
  rw[hcd]
  clear hcd fy e f1 f2 f3 f4 f5 hSp tu gn perm
  revert te
  induction hgs generalizing ys with
  | nil=>intro _;cases p;exact .nil
  | cons h1 _ ih =>
   intro te
   cases p with
   | cons p1 p2 =>
    obtain⟨i,i0,rfl⟩:=p1
    exact .cons ⟨EA (hf _ h1.1) h1.2 i0,rfl,rfl⟩ (ih _ p2 fun f h=>te f (aG _ h))
 have hl2:ys.length≤31:=by rw[p.len];exact f2
 rw[FQ (by show (ys.map c).length≤32;rw[aD];omega) (fun y hy=>by obtain⟨f,_,hh⟩:=hB.right hy;exact hh.1.fol.inn) (by
  show ((ys.map c).map fun x=>x.f.Track.Code).Nodup
  rw[Dw hB];exact gn)]
 simp only
 rw[WX,bK]
 exact⟨⟨Yh,ys.map c,n,0⟩,gs,rfl,perm,⟨rfl,hB⟩,rfl⟩
end Go.Sky
end
section
namespace Go.Eng
def dbl (n:Int):Nat:=FloatKind.f64.nearest n
def fcm (x y:Nat):Option Ordering:=FloatKind.f64.format.order x y
def feq (x y:Nat):Bool:=fcm x y==some .eq
def fne (x y:Nat):Bool:=fcm x y != some .eq
def flt (x y:Nat):Bool:=fcm x y==some .lt
def fgt (x y:Nat):Bool:=fcm x y==some .gt
def Zh (x y:Nat):Nat:=(FloatKind.f64.format.mul x y).getD 0
theorem Y9 {P:Program} {w:World} {t:TypeId} {x y:Nat} (h:(FloatKind.f64.format.mul x y).isSome=true) :
  (sV (binOp .mul t (.float .f64 x) (.float .f64 y))).run P w=.ok (.value (.float .f64 (Zh x y))) w:=by
 refine Va ?_
 obtain⟨r,hr⟩:=dM.1 h
 simp only[binOp,Op.floatArith,Zh,hr]
 rfl
theorem VE {f:FuncId} {P:Program} {w:World} {fn:Func} {b:Nat} (hf:P.funcs[f]?=some fn) (fb:(fn.name == "runtime.NumGoroutine")=false) (hb:fn.body.isNone=true) (hn:Extern.findNext fn=none)
  (he:Extern.find fn=some Extern.MathFloatBits.float64bits):(callFunc f #[.float .f64 b]).run P w=.ok (.value (.int .u64 (b:Int))) w:=by
 rw[run_callFunc_extern hf fb hb hn he];rfl
theorem J7 {f:FuncId} {P:Program} {w:World} {fn:Func} {n:Int} (hf:P.funcs[f]?=some fn) (fb:(fn.name == "runtime.NumGoroutine")=false) (hb:fn.body.isNone=true) (hn:Extern.findNext fn=none)
  (he:Extern.find fn=some Extern.MathFloatBits.float64frombits):(callFunc f #[.int .u64 n]).run P w=.ok (.value (.float .f64 n.toNat)) w:=by
 rw[run_callFunc_extern hf fb hb hn he];rfl
end Go.Eng
end
section
namespace Go.Eng
open Go.RowKit (Below)
def seq (x y:ByteArray):Bool:=x.toList==y.toList
end Go.Eng
end
section
namespace Go.Sky
open Go Go.Eng
theorem SI {a b:Nat} (ha:a<18446744073709551616) (hb:b<18446744073709551616):ZZ .u64 (a:Int) (b:Int)=((a &&& b:Nat):Int):=by
 have hx:a &&& b<18446744073709551616:=fH Nat.and_le_left ha
 have e:(BitVec.ofInt IntKind.u64.bits (a:Int) &&& BitVec.ofInt IntKind.u64.bits (b:Int)).toNat=a &&& b:=by
  rw[BitVec.toNat_and,BitVec.ofInt_natCast,BitVec.ofInt_natCast,BitVec.toNat_ofNat,BitVec.toNat_ofNat]
  have hs:(2:Nat) ^ IntKind.u64.bits=18446744073709551616:=rfl
  rw[hs,dK ha,dK hb]
 unfold ZZ
 rw[e]
 exact Nw (by omega)
theorem Ou {a b:Nat} (ha:a<18446744073709551616) (hb:b<18446744073709551616):kor .u64 (a:Int) (b:Int)=((a ||| b:Nat):Int):=by
 have hx:a ||| b<18446744073709551616:=Nat.or_lt_two_pow (n:=64) ha hb
 have e:(BitVec.ofInt IntKind.u64.bits (a:Int) ||| BitVec.ofInt IntKind.u64.bits (b:Int)).toNat=a ||| b:=by
  rw[BitVec.toNat_or,BitVec.ofInt_natCast,BitVec.ofInt_natCast,BitVec.toNat_ofNat,BitVec.toNat_ofNat]
  have hs:(2:Nat) ^ IntKind.u64.bits=18446744073709551616:=rfl
  rw[hs,dK ha,dK hb]
 unfold kor
 rw[e]
 exact Nw (by omega)
theorem NM {a b:Nat} (ha:a<18446744073709551616) (hb:b<18446744073709551616):Jk .u64 (a:Int) (b:Int)=((a &&& (18446744073709551615-b):Nat):Int):=by
 have hx:a &&& (18446744073709551615-b)<18446744073709551616:=fH Nat.and_le_left ha
 have e:(BitVec.ofInt IntKind.u64.bits (a:Int) &&& ~~~BitVec.ofInt IntKind.u64.bits (b:Int)).toNat=a &&& (18446744073709551615-b):=by
  rw[BitVec.toNat_and,BitVec.toNat_not,BitVec.ofInt_natCast,BitVec.ofInt_natCast,BitVec.toNat_ofNat,BitVec.toNat_ofNat]
  have hs:(2:Nat) ^ IntKind.u64.bits=18446744073709551616:=rfl
  rw[hs,dK ha,dK hb]
 unfold Jk
 rw[e]
 exact Nw (by omega)
theorem HW {x:Nat} (h:x<18446744073709551616):Jk .u64 (x:Int) 9223372036854775808=((x%9223372036854775808:Nat):Int):=by
 have e:=NM (a:=x) (b:=9223372036854775808) h (by decide)
 rw[show ((9223372036854775808:Nat):Int)=9223372036854775808 from rfl] at e
 rw[e,show 18446744073709551615-9223372036854775808=2 ^ 63-1 by decide,Nat.and_two_pow_sub_one_eq_mod]
theorem dbl_lt (n:Int):dbl n<18446744073709551616:=FloatKind.f64.format.write_lt (.number (n<0) n.natAbs 0)
end Go.Sky
end
section
namespace Go.Eng
def Zk (x y:Nat):Nat:=(FloatKind.f64.format.add x y).getD 0
def YH (x y:Nat):Nat:=(FloatKind.f64.format.sub x y).getD 0
def fdiv (x y:Nat):Nat:=(FloatKind.f64.format.div x y).getD 0
def We (x:Nat):Nat:=x ^^^ 9223372036854775808
def fle (x y:Nat):Bool:=fcm x y==some .lt||fcm x y==some .eq
def fge (x y:Nat):Bool:=fcm x y==some .gt||fcm x y==some .eq
def f2i (x:Nat):Int:=((FloatKind.f64.decode x).toInt .zero).getD 0
def UZ (x:Nat):Nat:=FloatKind.f64.encode ((FloatKind.f64.decode x).integral .down)
section
variable {P:Program} {w:World} {t:TypeId} {x y:Nat}
theorem Xn (h:(FloatKind.f64.format.add x y).isSome=true):(sV (binOp .add t (.float .f64 x) (.float .f64 y))).run P w=.ok (.value (.float .f64 (Zk x y))) w:=by
 obtain⟨r,hr⟩:=dM.1 h
 rw[show Zk x y=r by unfold Zk;rw[hr];rfl]
 exact Va (run_float_arith w .add t .f64 x y r hr)
theorem Ud (h:(FloatKind.f64.format.sub x y).isSome=true):(sV (binOp .sub t (.float .f64 x) (.float .f64 y))).run P w=.ok (.value (.float .f64 (YH x y))) w:=by
 obtain⟨r,hr⟩:=dM.1 h
 rw[show YH x y=r by unfold YH;rw[hr];rfl]
 exact Va (run_float_arith w .sub t .f64 x y r hr)
theorem UJ (h:(FloatKind.f64.format.div x y).isSome=true):(sV (binOp .quo t (.float .f64 x) (.float .f64 y))).run P w=.ok (.value (.float .f64 (fdiv x y))) w:=by
 obtain⟨r,hr⟩:=dM.1 h
 rw[show fdiv x y=r by unfold fdiv;rw[hr];rfl]
 exact Va (run_float_arith w .quo t .f64 x y r hr)
theorem NN {src dst:TypeId} {k:IntKind} (hs:(P.underlying src).isSome=true) (hd:P.underlying dst=some (.int k)) (h:floatToIntVal .f64 x k=some (f2i x)) :
  (sV (convert src dst (.float .f64 x))).run P w=.ok (.value (.int k (f2i x))) w:=Va (run_convert_float_int w src dst .f64 k x _ hs hd h)
end
abbrev DD:=FloatKind.f64.format
theorem B1:DD.signWeight=9223372036854775808:=rfl
theorem Ov:DD.binade=4503599627370496:=rfl
theorem Ox:DD.infRung=9218868437227405312:=rfl
theorem LM:DD.leastPlace=-1074:=rfl
theorem TF:DD.fractionBits=52:=rfl
theorem Us {m k:Nat} (h1:2 ^ k≤m) (h2:m<2 ^ (k+1)):m.log2=k:=by
 have h0:m≠0:=by have:=bR k;omega
 have a:=(Nat.le_log2 h0).2 h1
 have b:=(eA h0).2 h2
 omega
theorem H9 {s:Bool} {r:Nat} (h:r<9218868437227405312):DD.read (DD.word s r)=if r<4503599627370496 then .number s r (-1074) else .number s (4503599627370496+r%4503599627370496) (-1074+(r/4503599627370496-1:Nat)):=by
 have hm:DD.word s r%9223372036854775808=r:=by unfold Ieee.Format.word;rw[B1];cases s <;> simp <;> omega
 have hd:(DD.word s r/9223372036854775808%2==1)=s:=by unfold Ieee.Format.word;rw[B1];cases s <;> simp <;> omega
 unfold Ieee.Format.read
 simp only[B1,Ov,Ox,LM,hm,hd]
 by_cases h1:r<4503599627370496
 ·rw[if_pos h1,if_pos h1]
 ·rw[if_neg h1,if_neg h1,if_pos h]
theorem Ce (way:Ieee.Toward) (neg:Bool) (n drop:Nat):n/2 ^ (min drop (n.log2+2))≤way.cut neg n drop∧way.cut neg n drop≤n/2 ^ (min drop (n.log2+2))+1:=by
 unfold Ieee.Toward.cut
 simp only[gS]
 refine⟨gW _ _,Nat.add_le_add_left (Bool.toNat_le _) _⟩
theorem LN (neg:Bool) (n:Nat):Ieee.Toward.even.cut neg n 0=n:=by
 unfold Ieee.Toward.cut
 rw[Nat.zero_min]
 simp[Nat.mod_one]
def Lw (m:Nat) (p e:Int):Prop:=m=0∨(m.log2:Int)+p<e∨(m=2 ^ m.log2∧(m.log2:Int)+p=e)
theorem SJ (neg:Bool) {n drop:Nat} (h:n%2 ^ (min drop (n.log2+2))=0):Ieee.Toward.even.cut neg n drop=n/2 ^ (min drop (n.log2+2)):=by
 unfold Ieee.Toward.cut
 have hp:=bR (min drop (n.log2+2))
 simp only[gS,h]
 have h1:decide (2 ^ (min drop (n.log2+2))<2*0)=false:=decide_eq_false (by omega)
 have h2:(2 ^ (min drop (n.log2+2))==2*0)=false:=by
  generalize 2 ^ (min drop (n.log2+2))=q at hp
  cases q with
  | zero=>omega
  | succ q=>rfl
 rw[h1,h2];rfl
theorem JE (s:Bool) {m:Nat} {p e:Int} (h:Lw m p e) (h0:0≤e) (h1:e≤1000) :
  ∃ m' p',DD.read (DD.nearest s m p)=.number s m' p'∧Lw m' p' e∧(m≠0→0≤(m.log2:Int)+p→m'≠0∧0≤(m'.log2:Int)+p'):=by
 unfold Lw at h ⊢
 by_cases hm:m=0
 ·refine⟨0,-1074,?_,.inl rfl,fun h=>absurd hm h⟩
  unfold Ieee.Format.nearest
  rw[if_pos hm,H9 (by decide)]
  rfl
 have h:=h.resolve_left hm
 have l1:=dU hm
 have l2:m<2 ^ (m.log2+1):=cZ
 unfold Ieee.Format.nearest
 rw[if_neg hm]
 simp only[TF,LM,Ov,Ox]
 generalize hL:m.log2=L at *
 have hc:((52:Nat):Int)=52:=rfl
 rw[hc]
 by_cases hA:-1074≤p+(L:Int)-52
 ·
  rw[show max (p+(L:Int)-52) (-1074)=p+L-52 by omega]
  have hk:(4503599627370496≤Ieee.Toward.even.cut s (m <<< (p-(p+(L:Int)-52)).toNat) (p+(L:Int)-52-p).toNat∧Ieee.Toward.even.cut s (m <<< (p-(p+(L:Int)-52)).toNat) (p+(L:Int)-52-p).toNat≤9007199254740992) ∧
    (m=2 ^ L→Ieee.Toward.even.cut s (m <<< (p-(p+(L:Int)-52)).toNat) (p+(L:Int)-52-p).toNat=4503599627370496):=by
   by_cases hl:L≤52
   ·rw[show (p-(p+(L:Int)-52)).toNat=52-L by omega,show (p+(L:Int)-52-p).toNat=0 by omega,LN,cL]
    have e1:(2:Nat) ^ L*2 ^ (52-L)=4503599627370496:=by rw[← bQ,show L+(52-L)=52 by omega]
    have e2:(2:Nat) ^ (L+1)*2 ^ (52-L)=9007199254740992:=by rw[← bQ,show L+1+(52-L)=53 by omega]
    have a1:=bS (2 ^ (52-L)) l1
    have a2:=cM l2 (bR (52-L))
    exact⟨by omega,fun h=>by rw[h];exact e1⟩
   ·rw[show (p-(p+(L:Int)-52)).toNat=0 by omega,show (p+(L:Int)-52-p).toNat=L-52 by omega,dW]
    have c:=Ce .even s m (L-52)
    have x:=SJ s (n:=m) (drop:=L-52)
    rw[hL,dZ (by omega)] at c x
    have e1:(2:Nat) ^ L=4503599627370496*2 ^ (L-52):=by rw[show (4503599627370496:Nat)=2 ^ 52 from rfl,← bQ];congr 1;omega
    have e2:(2:Nat) ^ (L+1)=9007199254740992*2 ^ (L-52):=by rw[show (9007199254740992:Nat)=2 ^ 53 from rfl,← bQ];congr 1;omega
    have p1:=bR (L-52)
    have a1:4503599627370496≤m/2 ^ (L-52):=(Nat.le_div_iff_mul_le p1).2 (by omega)
    have a2:m/2 ^ (L-52)<9007199254740992:=(dG p1).2 (by omega)
    refine⟨by omega,fun h=>?_⟩
    rw[x (by rw[h,e1];exact Nat.mul_mod_left _ _)]
    rw[h,e1];exact Nat.mul_div_cancel _ p1
  generalize Ieee.Toward.even.cut s (m <<< (p-(p+(L:Int)-52)).toNat) (p+(L:Int)-52-p).toNat=k at hk
  obtain⟨E,hE⟩:∃ E:Nat,(p+(L:Int)-52 - -1074).toNat=E:=⟨_,rfl⟩
  have hE':(E:Int)=p+L+1022:=by omega
  have hLe:p+(L:Int)≤e:=by omega
  rw[hE,dZ (by omega),H9 (by omega),if_neg (by omega)]
  have lg:∀ F,F<4503599627370496→(4503599627370496+F).log2=52:=fun F hF=>Us (by omega) (by omega)
  by_cases hk2:k=9007199254740992
  ·have hn:¬ m=2 ^ L:=fun h=>by have:=hk.2 h;omega
   have e1:(E*4503599627370496+k)/4503599627370496=E+2:=by omega
   have e2:(E*4503599627370496+k)%4503599627370496=0:=by omega
   rw[e1,e2]
   refine⟨_,_,rfl,.inr ?_,fun _ _=>⟨by omega,?_⟩⟩ <;> rw[lg 0 (by decide)]
   ·have:(4503599627370496+0:Nat)=2 ^ 52:=rfl
    rcases h with h|h
    ·by_cases h5:p+(L:Int)+1=e
     ·exact .inr ⟨this,by omega⟩
     ·exact .inl (by omega)
    ·exact absurd h.1 hn
   ·omega
  ·have e1:(E*4503599627370496+k)/4503599627370496=E+1:=by omega
   have e2:(E*4503599627370496+k)%4503599627370496=k-4503599627370496:=by omega
   rw[e1,e2]
   refine⟨_,_,rfl,.inr ?_,fun _ _=>⟨by omega,?_⟩⟩ <;> rw[lg _ (by omega)]
   ·rcases h with h|h
    ·exact .inl (by omega)
    ·have h6:=hk.2 h.1
     subst h6
     exact .inr ⟨rfl,by omega⟩
   ·omega
 ·
  have h:(L:Int)+p<e:=by omega
  rw[show max (p+(L:Int)-52) (-1074)=-1074 by omega]
  have hk:Ieee.Toward.even.cut s (m <<< (p - -1074).toNat) (-1074-p).toNat≤4503599627370496:=by
   by_cases hp:-1074≤p
   ·rw[show (-1074-p).toNat=0 by omega,LN,cL]
    obtain⟨q,hq⟩:∃ q:Nat,(p - -1074).toNat=q:=⟨_,rfl⟩
    rw[hq]
    have a2:=cM l2 (bR q)
    rw[← bQ] at a2
    have a3:2 ^ (L+1+q)≤2 ^ 52:=cC (by decide) (by omega)
    have:(2:Nat) ^ 52=4503599627370496:=rfl
    omega
   ·rw[show (p - -1074).toNat=0 by omega,dW]
    have c:=Ce .even s m (-1074-p).toNat
    rw[hL] at c
    obtain⟨q,hq⟩:∃ q:Nat,(-1074-p).toNat=q:=⟨_,rfl⟩
    rw[hq] at c ⊢
    by_cases hd:q≤L+2
    ·rw[dZ hd] at c
     have a1:m/2 ^ q<4503599627370496:=by
      rw[dG (bR q)]
      have a3:2 ^ (L+1)≤2 ^ (52+q):=cC (by decide) (by omega)
      rw[bQ 2 52 q,show (2:Nat) ^ 52=4503599627370496 from rfl] at a3
      omega
     omega
    ·rw[Nat.min_eq_right (by omega)] at c
     have a1:m/2 ^ (L+2)=0:=Nat.div_eq_of_lt (bV l2 (cC (by decide) (by omega)))
     omega
  generalize Ieee.Toward.even.cut s (m <<< (p - -1074).toNat) (-1074-p).toNat=k at hk
  rw[show ((-1074:Int) - -1074).toNat=0 by decide,eX,bY,dZ (by omega),H9 (by omega)]
  by_cases hk2:k<4503599627370496
  ·rw[if_pos hk2]
   refine⟨_,_,rfl,?_,fun _ _=>by omega⟩
   by_cases hk0:k=0
   ·exact .inl hk0
   ·have:=(eA hk0).2 (show k<2 ^ 52 by omega)
    exact .inr (.inl (by omega))
  ·rw[if_neg hk2,show k=4503599627370496 by omega]
   refine⟨_,_,rfl,.inr (.inl ?_),fun _ _=>by omega⟩
   rw[show Nat.log2 (4503599627370496+4503599627370496%4503599627370496)=52 from Us (by decide) (by decide)]
   have:(4503599627370496/4503599627370496-1:Nat)=0:=rfl
   omega
theorem Lw.mono {m:Nat} {p e f:Int} (h:Lw m p e) (hf:e≤f):Lw m p f:=by
 unfold Lw at *
 by_cases h2:e=f
 ·subst h2;exact h
 ·omega
class Bd (e:outParam Nat) (x:Nat):Prop where
 bd:e≤1000→∃ s m p,DD.read x=.number s m p∧Lw m p e
class Po (e:outParam Nat) (x:Nat):Prop where
 po:e≤1000→∃ m p,DD.read x=.number false m p∧Lw m p e
class Ge (e:outParam Nat) (x:Nat):Prop where
 ge:e≤1000→∃ s m p,DD.read x=.number s m p∧Lw m p e∧m≠0∧0≤(m.log2:Int)+p
class Pg (e:outParam Nat) (x:Nat):Prop where
 pg:e≤1000→∃ m p,DD.read x=.number false m p∧Lw m p e∧m≠0∧0≤(m.log2:Int)+p
section
variable {e f x y:Nat}
instance Za3 [h:Po e x]:Bd e x:=⟨fun he=>by obtain⟨m,p,h1,h2⟩:=h.po he;exact⟨_,_,_,h1,h2⟩⟩
instance Za4 [h:Pg e x]:Po e x:=⟨fun he=>by obtain⟨m,p,h1,h2,_⟩:=h.pg he;exact⟨_,_,h1,h2⟩⟩
instance Za5 [h:Pg e x]:Ge e x:=⟨fun he=>by obtain⟨m,p,h1,h2⟩:=h.pg he;exact⟨_,_,_,h1,h2⟩⟩
instance Za6 [h:Ge e x]:Bd e x:=⟨fun he=>by obtain⟨s,m,p,h1,h2,_⟩:=h.ge he;exact⟨_,_,_,h1,h2⟩⟩
theorem EB {m n:Nat} (hm:m≠0) (hn:n≠0):(m*n).log2≤m.log2+n.log2+1:=by
 have a:m<2 ^ (m.log2+1):=cZ
 have b:n<2 ^ (n.log2+1):=cZ
 have c:=Nat.mul_lt_mul'' a b
 rw[← bQ] at c
 have:=(eA (Nat.mul_ne_zero hm hn)).2 c
 omega
theorem B2 {s t:Bool} {m n:Nat} {i j:Int} (hx:DD.read x=.number s m i) (hy:DD.read y=.number t n j):DD.mul x y=some (DD.nearest (s ^^ t) (m*n) (i+j)):=by
 unfold Ieee.Format.mul;rw[hx,hy];rfl
theorem G4 {m n:Nat} {i j:Int} (hm:Lw m i e) (hn:Lw n j f):Lw (m*n) (i+j) ((e+f:Nat):Int):=by
 unfold Lw at *
 by_cases h1:m=0
 ·exact .inl (by rw[h1,eX])
 by_cases h2:n=0
 ·exact .inl (by rw[h2,gX])
 have hl:=EB h1 h2
 have a:m<2 ^ (m.log2+1):=cZ
 have b:n<2 ^ (n.log2+1):=cZ
 have h0:=Nat.mul_ne_zero h1 h2
 refine .inr ?_
 rcases hm.resolve_left h1 with c|⟨c1,c2⟩
 ·rcases hn.resolve_left h2 with d|⟨d1,d2⟩
  ·exact .inl (by omega)
  ·have g:m*n<2 ^ (m.log2+1+n.log2):=by
    rw[bQ,← d1];exact cM a (eM h2)
   have:=(eA h0).2 g
   exact .inl (by omega)
 ·rcases hn.resolve_left h2 with d|⟨d1,d2⟩
  ·have g:m*n<2 ^ (m.log2+(n.log2+1)):=by
    rw[bQ,← c1];exact gN b (eM h1)
   have:=(eA h0).2 g
   exact .inl (by omega)
  ·have g:m*n=2 ^ (m.log2+n.log2):=by rw[bQ,← c1,← d1]
   have g2:(m*n).log2=m.log2+n.log2:=by rw[g];exact Us (aU _) (eB (by decide) (by omega))
   exact .inr ⟨by rw[g2];exact g,by omega⟩
theorem fmS [hx:Bd e x] [hy:Bd f y] (h:e≤1000∧f≤1000:=by decide):(FloatKind.f64.format.mul x y).isSome=true:=by
 obtain⟨s,m,i,h1,_⟩:=hx.bd h.1
 obtain⟨t,n,j,h2,_⟩:=hy.bd h.2
 rw[B2 h1 h2];rfl
instance bdM [hx:Bd e x] [hy:Bd f y]:Bd (e+f) (Zh x y):=⟨fun he=>by
 obtain⟨s,m,i,h1,k1⟩:=hx.bd (by omega)
 obtain⟨t,n,j,h2,k2⟩:=hy.bd (by omega)
 obtain⟨m',p',r1,r2,_⟩:=JE (s ^^ t) (G4 k1 k2) (by omega) (by omega)
 refine⟨(s ^^ t:Bool),m',p',?_,r2.mono (by omega)⟩
 unfold Zh;rw[B2 h1 h2];exact r1⟩
instance poM [hx:Po e x] [hy:Po f y]:Po (e+f) (Zh x y):=⟨fun he=>by
 obtain⟨m,i,h1,k1⟩:=hx.po (by omega)
 obtain⟨n,j,h2,k2⟩:=hy.po (by omega)
 obtain⟨m',p',r1,r2,_⟩:=JE (false ^^ false) (G4 k1 k2) (by omega) (by omega)
 refine⟨m',p',?_,r2.mono (by omega)⟩
 unfold Zh;rw[B2 h1 h2];exact r1⟩
instance poS [hx:Bd e x]:Po (e+e) (Zh x x):=⟨fun he=>by
 obtain⟨s,m,i,h1,k1⟩:=hx.bd (by omega)
 obtain⟨m',p',r1,r2,_⟩:=JE (s ^^ s) (G4 k1 k1) (by omega) (by omega)
 refine⟨m',p',?_,r2.mono (by omega)⟩
 unfold Zh;rw[B2 h1 h1]
 rw[Bool.xor_self] at r1 ⊢;exact r1⟩
theorem Dx {m:Nat} {i b:Int} {K:Nat} (hm:Lw m i (b+K)) (hi:b≤i):m <<< (i-b).toNat≤2 ^ K:=by
 unfold Lw at hm
 rw[cL]
 by_cases h1:m=0
 ·rw[h1,eX];exact aP _
 have a:m<2 ^ (m.log2+1):=cZ
 rcases hm.resolve_left h1 with h|⟨h,h3⟩
 ·have c:=cM a (bR (i-b).toNat)
  rw[← bQ] at c
  exact Nat.le_of_lt (bV c (cC (by decide) (by omega)))
 ·rw[show K=m.log2+(i-b).toNat by omega,bQ,← h]
  exact aU _
theorem NP {s t:Bool} {m n:Nat} {i j:Int} (hx:DD.read x=.number s m i) (hy:DD.read y=.number t n j):∃ tot:Int,tot=Ieee.signed s m (i-min i j).toNat+Ieee.signed t n (j-min i j).toNat ∧
  DD.add x y=some (DD.nearest (if tot=0 then s&&t else tot<0) tot.natAbs (min i j)):=by
 refine⟨_,rfl,?_⟩
 unfold Ieee.Format.add;rw[hx,hy];rfl
theorem TI {s t:Bool} {m n:Nat} {i j:Int} (hx:DD.read x=.number s m i) (hy:DD.read y=.number t n j):∃ tot:Int,tot=Ieee.signed s m (i-min i j).toNat+Ieee.signed (!t) n (j-min i j).toNat ∧
  DD.sub x y=some (DD.nearest (if tot=0 then s&&!t else tot<0) tot.natAbs (min i j)):=by
 refine⟨_,rfl,?_⟩
 unfold Ieee.Format.sub;rw[hx,hy];rfl
theorem Dy (s:Bool) (m a:Nat):(Ieee.signed s m a).natAbs=m <<< a:=by
 unfold Ieee.signed;cases s
 ·exact fI (m <<< a)
 ·exact(Int.natAbs_neg _).trans (fI (m <<< a))
theorem NQ {s t:Bool} {m n:Nat} {i j:Int} (hm:Lw m i e) (hn:Lw n j f) {tot:Int} (h:tot=Ieee.signed s m (i-min i j).toNat+Ieee.signed t n (j-min i j).toNat) :
  Lw tot.natAbs (min i j) ((max e f+1:Nat):Int):=by
 unfold Lw
 by_cases h0:tot.natAbs=0
 ·exact .inl h0
 refine .inr ?_
 have s1:=Dy s m (i-min i j).toNat
 have s2:=Dy t n (j-min i j).toNat
 by_cases hz:0≤((max e f:Nat):Int)-min i j
 ·obtain⟨K,hK⟩:∃ K:Nat,K=(((max e f:Nat):Int)-min i j).toNat:=⟨_,rfl⟩
  have a1:=Dx (m:=m) (i:=i) (b:=min i j) (K:=K) (hm.mono (by omega)) (by omega)
  have a2:=Dx (m:=n) (i:=j) (b:=min i j) (K:=K) (hn.mono (by omega)) (by omega)
  have a3:tot.natAbs≤2 ^ (K+1):=by
   rw[gF]
   generalize m <<< (i-min i j).toNat=A at *
   generalize n <<< (j-min i j).toNat=B at *
   omega
  by_cases a5:tot.natAbs=2 ^ (K+1)
  ·have a4:tot.natAbs.log2=K+1:=by rw[a5];exact Us (aU _) (eB (by decide) (by omega))
   exact .inr ⟨by rw[a4];exact a5,by omega⟩
  ·have a4:=(eA h0).2 (show tot.natAbs<2 ^ (K+1) by omega)
   exact .inl (by omega)
 ·exfalso
  have m0:m=0:=by unfold Lw at hm;omega
  have n0:n=0:=by unfold Lw at hn;omega
  rw[m0,dL] at s1
  rw[n0,dL] at s2
  rw[m0,n0] at h
  omega
theorem faS [hx:Bd e x] [hy:Bd f y] (h:e≤1000∧f≤1000:=by decide):(FloatKind.f64.format.add x y).isSome=true:=by
 obtain⟨s,m,i,h1,_⟩:=hx.bd h.1
 obtain⟨t,n,j,h2,_⟩:=hy.bd h.2
 obtain⟨_,_,h3⟩:=NP h1 h2
 rw[h3];rfl
theorem fsS [hx:Bd e x] [hy:Bd f y] (h:e≤1000∧f≤1000:=by decide):(FloatKind.f64.format.sub x y).isSome=true:=by
 obtain⟨s,m,i,h1,_⟩:=hx.bd h.1
 obtain⟨t,n,j,h2,_⟩:=hy.bd h.2
 obtain⟨_,_,h3⟩:=TI h1 h2
 rw[h3];rfl
instance bdA [hx:Bd e x] [hy:Bd f y]:Bd (max e f+1) (Zk x y):=⟨fun he=>by
 obtain⟨s,m,i,h1,k1⟩:=hx.bd (by omega)
 obtain⟨t,n,j,h2,k2⟩:=hy.bd (by omega)
 obtain⟨tot,h3,h4⟩:=NP h1 h2
 obtain⟨m',p',r1,r2,_⟩:=JE (if tot=0 then s&&t else tot<0) (NQ k1 k2 h3) (by omega) (by omega)
 refine⟨(if tot=0 then s&&t else tot<0:Bool),m',p',?_,r2.mono (by omega)⟩
 unfold Zk;rw[h4];exact r1⟩
instance bdB [hx:Bd e x] [hy:Bd f y]:Bd (max e f+1) (YH x y):=⟨fun he=>by
 obtain⟨s,m,i,h1,k1⟩:=hx.bd (by omega)
 obtain⟨t,n,j,h2,k2⟩:=hy.bd (by omega)
 obtain⟨tot,h3,h4⟩:=TI h1 h2
 obtain⟨m',p',r1,r2,_⟩:=JE (if tot=0 then s&&!t else tot<0) (NQ k1 k2 h3) (by omega) (by omega)
 refine⟨(if tot=0 then s&&!t else tot<0:Bool),m',p',?_,r2.mono (by omega)⟩
 unfold YH;rw[h4];exact r1⟩
theorem Jz (m a:Nat):Ieee.signed false m a=((m <<< a:Nat):Int):=rfl
instance poA [hx:Po e x] [hy:Po f y]:Po (max e f+1) (Zk x y):=⟨fun he=>by
 obtain⟨m,i,h1,k1⟩:=hx.po (by omega)
 obtain⟨n,j,h2,k2⟩:=hy.po (by omega)
 obtain⟨tot,h3,h4⟩:=NP h1 h2
 obtain⟨m',p',r1,r2,_⟩:=JE (if tot=0 then false&&false else tot<0) (NQ k1 k2 h3) (by omega) (by omega)
 rw[Jz,Jz] at h3
 have h5:0≤tot:=by rw[h3];exact Int.add_nonneg (aQ _) (aQ _)
 have e1:(if tot=0 then false&&false else decide (tot<0))=false:=by split;rfl;exact decide_eq_false (by omega)
 refine⟨m',p',?_,r2.mono (by omega)⟩
 unfold Zk;rw[h4]
 rw[e1] at r1 ⊢;exact r1⟩
instance pgA [hx:Po e x] [hy:Pg f y]:Pg (max e f+1) (Zk x y):=⟨fun he=>by
 obtain⟨m,i,h1,k1⟩:=hx.po (by omega)
 obtain⟨n,j,h2,k2,k3,k4⟩:=hy.pg (by omega)
 obtain⟨tot,h3,h4⟩:=NP h1 h2
 obtain⟨m',p',r1,r2,r3⟩:=JE (if tot=0 then false&&false else tot<0) (NQ k1 k2 h3) (by omega) (by omega)
 rw[Jz,Jz] at h3
 have h5:0≤tot:=by rw[h3];exact Int.add_nonneg (aQ _) (aQ _)
 have e1:(if tot=0 then false&&false else decide (tot<0))=false:=by split;rfl;exact decide_eq_false (by omega)
 have q1:2 ^ (n.log2+(j-min i j).toNat)≤n <<< (j-min i j).toNat:=by
  rw[cL,bQ];exact bS _ (dU k3)
 have h6:tot.natAbs=m <<< (i-min i j).toNat+n <<< (j-min i j).toNat:=by rw[h3,← hQ];exact fI _
 generalize n <<< (j-min i j).toNat=B at q1 h6
 generalize m <<< (i-min i j).toNat=A at h6
 have q2:tot.natAbs≠0:=by have:=bR (n.log2+(j-min i j).toNat);omega
 have q3:n.log2+(j-min i j).toNat≤tot.natAbs.log2:=(Nat.le_log2 q2).2 (by omega)
 have r4:=r3 q2 (by omega)
 refine⟨m',p',?_,r2.mono (by omega),r4⟩
 unfold Zk;rw[h4]
 rw[e1] at r1 ⊢;exact r1⟩
theorem IC {m n:Nat} {i j:Int} (hm:Lw m i e) (hm0:m≠0) (hn:n≠0) (hn2:0≤(n.log2:Int)+j) (more:Nat) (i7:n.log2≤m.log2+more) :
  Lw (2*(m <<< more/n)+(m <<< more%n != 0).toNat) (i-j-more-1) e:=by
 unfold Lw at *
 by_cases h0:2*(m <<< more/n)+(m <<< more%n != 0).toNat=0
 ·exact .inl h0
 refine .inr ?_
 have b:=Bool.toNat_le (m <<< more%n != 0)
 have a:m<2 ^ (m.log2+1):=cZ
 have a1:=dU hn
 rcases hm.resolve_left hm0 with h|⟨h,h3⟩
 ·have c:=cM a (bR more)
  rw[← bQ,← cL] at c
  obtain⟨k,hk⟩:∃ k,k=m.log2+1+more-n.log2:=⟨_,rfl⟩
  have d:m <<< more/n<2 ^ k:=by
   rw[dG (eM hn)]
   refine bV c ?_
   rw[show m.log2+1+more=k+n.log2 by omega,bQ]
   exact Nat.mul_le_mul_left _ a1
  have g:2*(m <<< more/n)+(m <<< more%n != 0).toNat<2 ^ (k+1):=by rw[gF];omega
  have:=(eA h0).2 g
  exact .inl (by omega)
 ·obtain⟨k,hk⟩:∃ k,k=m.log2+more-n.log2:=⟨_,rfl⟩
  have hD:m <<< more=2 ^ k*2 ^ n.log2:=by rw[cL,← bQ,show k+n.log2=m.log2+more by omega,bQ,← h]
  by_cases hn3:n=2 ^ n.log2
  ·have d:m <<< more/n=2 ^ k:=by rw[hD,← hn3];exact Nat.mul_div_cancel _ (eM hn)
   have d2:m <<< more%n=0:=by rw[hD,← hn3];exact Nat.mul_mod_left _ _
   rw[d,d2] at h0 ⊢
   have g:2*2 ^ k+((0:Nat) != 0).toNat=2 ^ (k+1):=by rw[gF,eI];rfl
   rw[g]
   have g2:(2 ^ (k+1)).log2=k+1:=Us (aU _) (eB (by decide) (by omega))
   rw[g2]
   by_cases g3:(n.log2:Int)+j=0
   ·exact .inr ⟨rfl,by omega⟩
   ·exact .inl (by omega)
  ·have d:m <<< more/n<2 ^ k:=by
    rw[dG (eM hn),hD]
    exact gN (by omega) (bR k)
   have g:2*(m <<< more/n)+(m <<< more%n != 0).toNat<2 ^ (k+1):=by rw[gF];omega
   have:=(eA h0).2 g
   exact .inl (by omega)
theorem B5 {s t:Bool} {m n:Nat} {i j:Int} (hx:DD.read x=.number s m i) (hy:DD.read y=.number t n j) (hn:n≠0):∃ more:Nat,more=54+n.log2-m.log2 ∧
  DD.div x y=some (DD.nearest (s ^^ t) (2*(m <<< more/n)+(m <<< more%n != 0).toNat) (i-j-more-1)):=by
 refine⟨_,rfl,?_⟩
 unfold Ieee.Format.div;rw[hx,hy]
 simp only[Ieee.Datum.quotient,if_neg hn,TF]
 rfl
theorem fdS [hx:Bd e x] [hy:Ge f y] (h:e≤1000∧f≤1000:=by decide):(FloatKind.f64.format.div x y).isSome=true:=by
 obtain⟨s,m,i,h1,_⟩:=hx.bd h.1
 obtain⟨t,n,j,h2,_,h4,_⟩:=hy.ge h.2
 obtain⟨_,_,h3⟩:=B5 h1 h2 h4
 rw[h3];rfl
theorem zero_div {n more:Nat}:2*(0 <<< more/n)+(0 <<< more%n != 0).toNat=0:=by simp
theorem NR {m n:Nat} {i j:Int} (hm2:Lw m i e) (hn:n≠0) (hn2:0≤(n.log2:Int)+j) {more:Nat} (i7:more=54+n.log2-m.log2) :
  Lw (2*(m <<< more/n)+(m <<< more%n != 0).toNat) (i-j-more-1) e:=by
 by_cases hm:m=0
 ·subst hm;exact .inl zero_div
 ·exact IC hm2 hm hn hn2 more (by omega)
theorem Oy [hx:Bd e x] [hy:Ge f y] (hf:f≤1000:=by decide):Bd e (fdiv x y):=⟨fun he=>by
 obtain⟨s,m,i,h1,k1⟩:=hx.bd he
 obtain⟨t,n,j,h2,k2,k3,k4⟩:=hy.ge hf
 obtain⟨more,h3,h4⟩:=B5 h1 h2 k3
 obtain⟨m',p',r1,r2,_⟩:=JE (s ^^ t) (NR k1 k3 k4 h3) (by omega) (by omega)
 refine⟨(s ^^ t:Bool),m',p',?_,r2⟩
 unfold fdiv;rw[h4];exact r1⟩
instance bdD [hx:Bd e x] [hy:Ge f y]:Bd (max e f) (fdiv x y):=⟨fun he=>by
 obtain⟨s,m,i,h1,k1⟩:=hx.bd (by omega)
 obtain⟨t,n,j,h2,k2,k3,k4⟩:=hy.ge (by omega)
 obtain⟨more,h3,h4⟩:=B5 h1 h2 k3
 obtain⟨m',p',r1,r2,_⟩:=JE (s ^^ t) (NR k1 k3 k4 h3) (by omega) (by omega)
 refine⟨(s ^^ t:Bool),m',p',?_,r2.mono (by omega)⟩
 unfold fdiv;rw[h4];exact r1⟩
instance poD [hx:Po e x] [hy:Pg f y]:Po (max e f) (fdiv x y):=⟨fun he=>by
 obtain⟨m,i,h1,k1⟩:=hx.po (by omega)
 obtain⟨n,j,h2,k2,k3,k4⟩:=hy.pg (by omega)
 obtain⟨more,h3,h4⟩:=B5 h1 h2 k3
 obtain⟨m',p',r1,r2,_⟩:=JE (false ^^ false) (NR k1 k3 k4 h3) (by omega) (by omega)
 refine⟨m',p',?_,r2.mono (by omega)⟩
 unfold fdiv;rw[h4];exact r1⟩
end
end Go.Eng
end
