/- Lemmas toward the given statement (part 3 of 20): Wa Geo Strs Flt FltB Fa. Each theorem states its own conditions; nothing is assumed beyond them. -/
import Derived.Test.YtmiemlhgkgfkeaaGreatDoorTw02
import Derived.Laws.BytesString
import Derived.Laws.Cells
import Derived.Laws.Externs
import Derived.Laws.FloatBits
import Derived.Test.YtmiemlhgkgfkeaaGreatDoorRows
set_option maxRecDepth 100000
section
namespace Go.Sky
open Go Go.Eng Go.Proofs
def ZZ (n:Int) (low:Int) (high:Int):Bool :=
 (decide (n<low))||(decide (n>high))
theorem XJ (n:Int) (low:Int) (high:Int) (w:World):Calls Tryz.prog 54 #[.int .i64 n,.int .i64 low,.int .i64 high] w (Ret w (.bool (ZZ n low high))):=by
 exact Zo (vs:=[.i n,.i low,.i high]) (w:=w) Tryz.func54 rfl Tryz.ntmps54 rfl (Ze (Zc 1 [] [(6,.b false)] {} (Zv (Zc 4 [] [(10,.b (decide (n<low)))] {} (XT 10 (decide (n<low)) 8 [] [] (fun β=>[(14,.b (β||(decide (n>high))))]) Kr {} {} (Zc 9 [] [(6,.b ((decide (n<low))||(decide (n>high))))] {} (Zb rfl (TC.ret (TE.ret [] (.b ((decide (n<low))||(decide (n>high)))) {} (by unfold ZZ;refine eS (fun z=>(.b z:Value)) ?_;exact rfl))))))))))
def Xg (p:P):Int :=
 cond ((((decide (p.X<(-1000000)))||(decide (p.X>1000000)))||(decide (p.Y<(-1000000))))||(decide (p.Y>1000000))) (
  4) (
  0)
theorem UD (p:P) (w:World):Calls Tryz.prog 55 #[P.v p] w (Ret w (.int .i64 (Xg p))):=by
 refine Zo (vs:=[P.v p]) (w:=w) Tryz.func55 rfl Tryz.ntmps55 rfl (Ze (ZH 1 (fun b1=>.p0 b1) (fun b1=>Bk b1 (P.c p) 32) (fun b1=>{}) (fun b1=>Zc 2 [] [(2,.i 0)] {} (Zz (Ze (Zc 4 [0] [(6,.b (decide (p.X<(-1000000))))] {} (XT 6 (decide (p.X<(-1000000))) 8 [] [0] (fun β=>[(10,.b (β||(decide (p.X>1000000))))]) Kr {} {} (Zc 9 [] [(11,.b ((decide (p.X<(-1000000)))||(decide (p.X>1000000))))] {} (XT 11 ((decide (p.X<(-1000000)))||(decide (p.X>1000000))) 13 [] [0] (fun β=>[(15,.b (β||(decide (p.Y<(-1000000)))))]) Kr {} {} (Zc 14 [] [(16,.b (((decide (p.X<(-1000000)))||(decide (p.X>1000000)))||(decide (p.Y<(-1000000)))))] {} (XT 16 (((decide (p.X<(-1000000)))||(decide (p.X>1000000)))||(decide (p.Y<(-1000000)))) 18 [] [0] (fun β=>[(20,.b (β||(decide (p.Y>1000000))))]) Kr {} {} (Zb rfl (TC.cond ((((decide (p.X<(-1000000)))||(decide (p.X>1000000)))||(decide (p.Y<(-1000000))))||(decide (p.Y>1000000))) rfl Kr (fun h1=>?_) (fun h1=>?_))))))))))))))
 ·exact Ze (Zc 1 [] [(2,.i 4)] {} (Zb rfl (TC.ret (Zq (TE.ret [] (.i 4) {} (by unfold Xg;refine eS (fun z=>(.i z:Value)) ?_;exact Zk h1 (rfl)))))))
 ·exact ZI (Zc 1 [] [(2,.i 0)] {} (Zb rfl (TC.ret (TE.ret [] (.i 0) {} (by unfold Xg;refine eS (fun z=>(.i z:Value)) ?_;exact Zd h1 (rfl))))))
def ZD (s:Zm):Int :=
 let r1:=ZZ s.Time 0 200000
 cond r1 (
  4) (
  let r2:=Xg s.At
  cond (r2 != 0) (
   4) (
   let r3:=ZZ s.Height 0 60000
   cond r3 (
    4) (
    let r4:=ZZ s.Code (-1) 4095
    cond r4 (
     4) (
     let r5:=ZZ s.Error 0 1000000
     cond r5 (
      4) (
      0)))))
theorem Qc (s:Zm) (w:World):Calls Tryz.prog 22 #[Zm.v s] w (Ret w (.int .i64 (ZD s))):=by
 refine Zo (vs:=[Zm.v s]) (w:=w) Tryz.func22 rfl Tryz.ntmps22 rfl (Ze (ZH 1 (fun b1=>.p0 b1) (fun b1=>Bk b1 (Zm.c s) 46) (fun b1=>{}) (fun b1=>Zc 2 [] [(2,.i 0)] {} (Zz (Ze (Zc 2 [0] [(4,.i s.Time)] {} (TL.c 5 (ZZ s.Time 0 200000) (fun r1=>.b r1) (fun w _=>XJ s.Time 0 200000 w) {} (fun r1 hr1=>Zc 4 [] [(6,.b r1)] {} (Yo 6 r1 Kr (fun h1=>?_) (fun h1=>?_))))))))))
 ·exact Zc 24 [] [(26,.b true)] {} (Zb rfl (Xo rfl Kr (Ze (Zc 1 [] [(2,.i 4)] {} (Zb rfl (TC.ret (Zq (TE.ret [] (.i 4) {} (by unfold ZD;refine eS (fun z=>(.i z:Value)) ?_;subst hr1;exact Zk h1 (rfl))))))))))
 ·refine Zc 6 [0] [(8,P.v s.At)] {} (TL.c 9 (Xg s.At) (fun r2=>.i r2) (fun w _=>UD s.At w) {} (fun r2 hr2=>Zc 10 [] [(12,.b (r2 != 0))] {} (Yo 12 (r2 != 0) Kr (fun h2=>?_) (fun h2=>?_))))
  ·exact Zc 24 [] [(26,.b true)] {} (Zb rfl (Xo rfl Kr (Ze (Zc 1 [] [(2,.i 4)] {} (Zb rfl (TC.ret (Zq (TE.ret [] (.i 4) {} (by unfold ZD;refine eS (fun z=>(.i z:Value)) ?_;subst hr1 hr2;exact Zd h1 (Zk h2 (rfl)))))))))))
  ·refine Zc 12 [0] [(14,.i s.Height)] {} (TL.c 15 (ZZ s.Height 0 60000) (fun r3=>.b r3) (fun w _=>XJ s.Height 0 60000 w) {} (fun r3 hr3=>Zc 15 [] [(17,.b r3)] {} (Yo 17 r3 Kr (fun h3=>?_) (fun h3=>?_))))
   ·exact Zc 24 [] [(26,.b true)] {} (Zb rfl (Xo rfl Kr (Ze (Zc 1 [] [(2,.i 4)] {} (Zb rfl (TC.ret (Zq (TE.ret [] (.i 4) {} (by unfold ZD;refine eS (fun z=>(.i z:Value)) ?_;subst hr1 hr2 hr3;exact Zd h1 (Zd h2 (Zk h3 (rfl))))))))))))
   ·refine Zc 17 [0] [(19,.i s.Code)] {} (TL.c 20 (ZZ s.Code (-1) 4095) (fun r4=>.b r4) (fun w _=>XJ s.Code (-1) 4095 w) {} (fun r4 hr4=>Zc 20 [] [(22,.b r4)] {} (Yo 22 r4 Kr (fun h4=>?_) (fun h4=>?_))))
    ·exact Zc 24 [] [(26,.b true)] {} (Zb rfl (Xo rfl Kr (Ze (Zc 1 [] [(2,.i 4)] {} (Zb rfl (TC.ret (Zq (TE.ret [] (.i 4) {} (by unfold ZD;refine eS (fun z=>(.i z:Value)) ?_;subst hr1 hr2 hr3 hr4;exact Zd h1 (Zd h2 (Zd h3 (Zk h4 (rfl)))))))))))))
    ·refine Zc 22 [0] [(24,.i s.Error)] {} (TL.c 25 (ZZ s.Error 0 1000000) (fun r5=>.b r5) (fun w _=>XJ s.Error 0 1000000 w) {} (fun r5 hr5=>Zc 24 [] [(26,.b r5)] {} (Zb rfl (TC.cond r5 rfl Kr (fun h5=>?_) (fun h5=>?_)))))
     ·exact Ze (Zc 1 [] [(2,.i 4)] {} (Zb rfl (TC.ret (Zq (TE.ret [] (.i 4) {} (by unfold ZD;refine eS (fun z=>(.i z:Value)) ?_;subst hr1 hr2 hr3 hr4 hr5;exact Zd h1 (Zd h2 (Zd h3 (Zd h4 (Zk h5 (rfl)))))))))))
     ·exact ZI (Zc 1 [] [(2,.i 0)] {} (Zb rfl (TC.ret (TE.ret [] (.i 0) {} (by unfold ZD;refine eS (fun z=>(.i z:Value)) ?_;subst hr1 hr2 hr3 hr4 hr5;exact Zd h1 (Zd h2 (Zd h3 (Zd h4 (Zd h5 (rfl))))))))))
def Ju (a:P) (b_:P):P :=
 (⟨w64 (a.X-b_.X),w64 (a.Y-b_.Y)⟩:P)
theorem HS (a:P) (b_:P) (w:World):Calls Tryz.prog 26 #[P.v a,P.v b_] w (Ret w (P.v (Ju a b_))):=by
 exact Zo (vs:=[P.v a,P.v b_]) (w:=w) Tryz.func26 rfl Tryz.ntmps26 rfl (Ze (ZH 2 (fun b1=>.p0 b1) (fun b1=>Bk b1 (P.c a) 32) (fun b1=>{}) (fun b1=>ZH 3 (fun b2=>.p0 b2) (fun b2=>Bk b2 (P.c b_) 32) (fun b2=>{}) (fun b2=>ZH 4 (fun b3=>.p0 b3) (fun b3=>Bk b3 (P.c P.zero) 32) (fun b3=>{}) (fun b3=>Zv (Zc 11 [2,1,2,1] [(15,P.v (⟨w64 (a.X-b_.X),w64 (a.Y-b_.Y)⟩:P))] {} (Ym 0 (Bk b3 (P.c (⟨w64 (a.X-b_.X),w64 (a.Y-b_.Y)⟩:P)) 32) (fun _=>{}) (Zb rfl (TC.ret (TE.ret [0] (P.v (⟨w64 (a.X-b_.X),w64 (a.Y-b_.Y)⟩:P)) {} (by unfold Ju;refine eS (fun z=>(P.v z:Value)) ?_;exact rfl)))))))))))
def JE (a:P) (b_:P):P :=
 (⟨w64 (a.X+b_.X),w64 (a.Y+b_.Y)⟩:P)
theorem HT (a:P) (b_:P) (w:World):Calls Tryz.prog 72 #[P.v a,P.v b_] w (Ret w (P.v (JE a b_))):=by
 exact Zo (vs:=[P.v a,P.v b_]) (w:=w) Tryz.func72 rfl Tryz.ntmps72 rfl (Ze (ZH 2 (fun b1=>.p0 b1) (fun b1=>Bk b1 (P.c a) 32) (fun b1=>{}) (fun b1=>ZH 3 (fun b2=>.p0 b2) (fun b2=>Bk b2 (P.c b_) 32) (fun b2=>{}) (fun b2=>ZH 4 (fun b3=>.p0 b3) (fun b3=>Bk b3 (P.c P.zero) 32) (fun b3=>{}) (fun b3=>Zv (Zc 11 [2,1,2,1] [(15,P.v (⟨w64 (a.X+b_.X),w64 (a.Y+b_.Y)⟩:P))] {} (Ym 0 (Bk b3 (P.c (⟨w64 (a.X+b_.X),w64 (a.Y+b_.Y)⟩:P)) 32) (fun _=>{}) (Zb rfl (TC.ret (TE.ret [0] (P.v (⟨w64 (a.X+b_.X),w64 (a.Y+b_.Y)⟩:P)) {} (by unfold JE;refine eS (fun z=>(P.v z:Value)) ?_;exact rfl)))))))))))
def UK (a:P) (b_:P):Int :=
 w64 ((w64 (a.X*b_.X))+(w64 (a.Y*b_.Y)))
theorem MQ (a:P) (b_:P) (w:World):Calls Tryz.prog 97 #[P.v a,P.v b_] w (Ret w (.int .i64 (UK a b_))):=by
 exact Zo (vs:=[P.v a,P.v b_]) (w:=w) Tryz.func97 rfl Tryz.ntmps97 rfl (Ze (ZH 2 (fun b1=>.p0 b1) (fun b1=>Bk b1 (P.c a) 32) (fun b1=>{}) (fun b1=>ZH 3 (fun b2=>.p0 b2) (fun b2=>Bk b2 (P.c b_) 32) (fun b2=>{}) (fun b2=>Zc 3 [] [(4,.i 0)] {} (Zv (Zc 12 [1,0,1,0] [(4,.i (w64 ((w64 (a.X*b_.X))+(w64 (a.Y*b_.Y)))))] {} (Zb rfl (TC.ret (TE.ret [] (.i (w64 ((w64 (a.X*b_.X))+(w64 (a.Y*b_.Y))))) {} (by unfold UK;refine eS (fun z=>(.i z:Value)) ?_;exact rfl))))))))))
def Yy (a:P) (b_:P):Int :=
 let r1:=Ju a b_
 let r2:=UK r1 r1
 r2
theorem VX (a:P) (b_:P) (w:World):Calls Tryz.prog 56 #[P.v a,P.v b_] w (Ret w (.int .i64 (Yy a b_))):=by
 exact Zo (vs:=[P.v a,P.v b_]) (w:=w) Tryz.func56 rfl Tryz.ntmps56 rfl (Ze (ZH 2 (fun b1=>.p0 b1) (fun b1=>Bk b1 (P.c a) 32) (fun b1=>{}) (fun b1=>ZH 3 (fun b2=>.p0 b2) (fun b2=>Bk b2 (P.c b_) 32) (fun b2=>{}) (fun b2=>Zc 3 [] [(4,.i 0)] {} (Zv (Zc 2 [1,0] [(6,P.v a),(7,P.v b_)] {} (TL.c 8 (Ju a b_) (fun r1=>P.v r1) (fun w _=>HS a b_ w) {} (fun r1 hr1=>ZH 5 (fun b3=>.p0 b3) (fun b3=>Bk b3 (P.c P.zero) 32) (fun b3=>{}) (fun b3=>Ym 0 (Bk b3 (P.c r1) 32) (fun _=>{}) (Zv (Zc 2 [0,0] [(9,P.v r1),(10,P.v r1)] {} (TL.c 11 (UK r1 r1) (fun r2=>.i r2) (fun w _=>MQ r1 r1 w) {} (fun r2 hr2=>Zc 4 [] [(4,.i r2)] {} (Zb rfl (TC.ret (TE.ret [] (.i r2) {} (by unfold Yy;refine eS (fun z=>(.i z:Value)) ?_;subst hr1 hr2;exact rfl)))))))))))))))))
def Y3 (a:P) (b_:P) (d:Int):Bool :=
 cond ((decide (d≥0))&&(decide (d≤8000000))) (
  let r1:=Yy a b_
  decide (r1≤(w64 (d*d)))) (
  false)
theorem Kw (a:P) (b_:P) (d:Int) (w:World):Calls Tryz.prog 23 #[P.v a,P.v b_,.int .i64 d] w (Ret w (.bool (Y3 a b_ d))):=by
 refine Zo (vs:=[P.v a,P.v b_,.i d]) (w:=w) Tryz.func23 rfl Tryz.ntmps23 rfl (Ze (ZH 3 (fun b1=>.p0 b1) (fun b1=>Bk b1 (P.c a) 32) (fun b1=>{}) (fun b1=>ZH 4 (fun b2=>.p0 b2) (fun b2=>Bk b2 (P.c b_) 32) (fun b2=>{}) (fun b2=>Zc 3 [] [(6,.b false)] {} (Zv (Zc 3 [] [(9,.b (decide (d≥0)))] {} (XT 9 (decide (d≥0)) 6 [] [] (fun β=>[(12,.b (β&&(decide (d≤8000000))))]) Kr {} {} (Zc 7 [] [(13,.b ((decide (d≥0))&&(decide (d≤8000000))))] {} (Yo 13 ((decide (d≥0))&&(decide (d≤8000000))) Kr (fun h1=>?_) (fun h1=>?_))))))))))
 ·exact Zc 9 [1,0] [(14,P.v a),(15,P.v b_)] {} (TL.c 16 (Yy a b_) (fun r1=>.i r1) (fun w _=>VX a b_ w) {} (fun r1 hr1=>Zc 16 [] [(6,.b (decide (r1≤(w64 (d*d)))))] {} (Zb rfl (TC.ret (TE.ret [] (.b (decide (r1≤(w64 (d*d))))) {} (by unfold Y3;refine eS (fun z=>(.b z:Value)) ?_;subst hr1;exact Zk h1 (rfl)))))))
 ·exact Zc 16 [] [(6,.b false)] {} (Zb rfl (TC.ret (TE.ret [] (.b false) {} (by unfold Y3;refine eS (fun z=>(.b z:Value)) ?_;exact Zd h1 (rfl)))))
def Qd (a:Int) (b_:Int):Int×Int :=
 cond (b_==0) (
  (0,10)) (
  cond ((a==(-9223372036854775808))&&(b_==(-1))) (
   (0,2)) (
   cond (((a.tmod b_) != 0)&&(!((decide (a<0))==(decide (b_<0))))) (
    (w64 ((w64 (a.tdiv b_))-1),0)) (
    (w64 (a.tdiv b_),0))))
theorem Wn (a:Int) (b_:Int) (w:World):Calls Tryz.prog 123 #[.int .i64 a,.int .i64 b_] w (Ret w (.tuple #[.int .i64 ((Qd a b_).1),.int .i64 ((Qd a b_).2)])):=by
 refine Zo (vs:=[.i a,.i b_]) (w:=w) Tryz.func123 rfl Tryz.ntmps123 rfl (Ze (Zc 2 [] [(4,.i 0),(5,.i 0)] {} (Zz (TC.block (Ze (Zc 3 [] [(7,.b (b_==0))] {} (Zb rfl (TC.cond (b_==0) rfl Kr (fun h1=>?_) (fun h1=>?_)))))))))
 ·refine Ze (Zc 2 [] [(4,.i 0),(5,.i 10)] {} (Zb rfl (TC.ret (ZY (Zq ?_)))))
  exact TE.ret [] (.tuple #[.i 0,.i 10]) {} (by unfold Qd;refine eS (a:=(0,10)) (fun (z:Int×Int)=>(.tuple #[.i z.1,.i z.2]:Value)) ?_;exact Zk h1 (rfl))
 ·have j4:=(Yh h1)
  refine Ze (Zc 3 [] [(13,.b (a==(-9223372036854775808)))] {} (XT 13 (a==(-9223372036854775808)) 6 [] [] (fun β=>[(16,.b (β&&(b_==(-1))))]) Kr {} {} (Zc 7 [] [(10,.b ((a==(-9223372036854775808))&&(b_==(-1))))] {} (Zb rfl (TC.cond ((a==(-9223372036854775808))&&(b_==(-1))) rfl Kr (fun h2=>?_) (fun h2=>?_))))))
  ·refine Ze (Zc 2 [] [(4,.i 0),(5,.i 2)] {} (Zb rfl (TC.ret (ZY (Zq ?_)))))
   exact TE.ret [] (.tuple #[.i 0,.i 2]) {} (by unfold Qd;refine eS (a:=(0,2)) (fun (z:Int×Int)=>(.tuple #[.i z.1,.i z.2]:Value)) ?_;exact Zd h1 (Zk h2 (rfl)))
  ·have vr:=((Qq h2).imp (fun h=>(Yh h)) (fun h=>(Yh h)))
   refine TC.skip (Yr (YZ (Zc 2 [] [(17,.i a),(18,.i b_)] {} (TL.v (sV (binOp .quo 3 (.i a) (.i b_))) 19 (.i (w64 (a.tdiv b_))) (fun w hM=>C4 sdr) {} (Zc 4 [] [(6,.i (w64 (a.tdiv b_)))] {} (Zz (Ze (Zc 2 [] [(20,.i a),(21,.i b_)] {} (TL.v (sV (binOp .rem 3 (.i a) (.i b_))) 22 (.i (a.tmod b_)) (fun w hM=>Bo sdr) {} (Zc 5 [] [(24,.b ((a.tmod b_) != 0))] {} (XT 24 ((a.tmod b_) != 0) 11 [] [] (fun β=>[(30,.b (β&&(!((decide (a<0))==(decide (b_<0))))))]) Kr {} {} (Zb rfl (TC.cond (((a.tmod b_) != 0)&&(!((decide (a<0))==(decide (b_<0))))) rfl Kr (fun h3=>?_) (fun h3=>?_))))))))))))))
   ·exact TC.region (Zc 3 [] [(6,.i (w64 ((w64 (a.tdiv b_))-1)))] {} (Zv (Zc 3 [] [(4,.i (w64 ((w64 (a.tdiv b_))-1))),(5,.i 0)] {} (Zb rfl (TC.ret (TE.ret [] (.tuple #[.i (w64 ((w64 (a.tdiv b_))-1)),.i 0]) {} (by unfold Qd;refine eS (a:=(w64 ((w64 (a.tdiv b_))-1),0)) (fun (z:Int×Int)=>(.tuple #[.i z.1,.i z.2]:Value)) ?_;exact Zd h1 (Zd h2 (Zk h3 (rfl))))))))))
   ·exact ZI (Zc 3 [] [(4,.i (w64 (a.tdiv b_))),(5,.i 0)] {} (Zb rfl (TC.ret (TE.ret [] (.tuple #[.i (w64 (a.tdiv b_)),.i 0]) {} (by unfold Qd;refine eS (a:=(w64 (a.tdiv b_),0)) (fun (z:Int×Int)=>(.tuple #[.i z.1,.i z.2]:Value)) ?_;exact Zd h1 (Zd h2 (Zd h3 (rfl))))))))
def Qs (a:Int) (b_:Int):Int×Int :=
 let r1:=Qd a b_
 cond (r1.2==0) (
  cond ((a.tmod b_) != 0) (
   (w64 (r1.1+1),r1.2)) (
   (r1.1,r1.2))) (
  (r1.1,r1.2))
theorem SZ {a b:Int} {r:Int×Int} (hr:Qd a b=r) (h:(r.2==0)=true):b≠0:=by
 rintro rfl;subst hr;revert h;simp[Qd]
theorem VB (a:Int) (b_:Int) (w:World):Calls Tryz.prog 111 #[.int .i64 a,.int .i64 b_] w (Ret w (.tuple #[.int .i64 ((Qs a b_).1),.int .i64 ((Qs a b_).2)])):=by
 refine Zo (vs:=[.i a,.i b_]) (w:=w) Tryz.func111 rfl Tryz.ntmps111 rfl (Ze (Zc 2 [] [(4,.i 0),(5,.i 0)] {} (Zv (Zc 2 [] [(9,.i a),(10,.i b_)] {} (TL.c 11 (Qd a b_) (fun r1=>.tuple #[.i r1.1,.i r1.2]) (fun w _=>Wn a b_ w) {} (fun r1 hr1=>Zc 8 [] [(6,.i r1.1),(7,.i r1.2)] {} (Zz (Ze (Zc 3 [] [(16,.b (r1.2==0))] {} (Yo 16 (r1.2==0) Kr (fun h1=>?_) (fun h1=>?_)))))))))))
 ·refine Zc 5 [] [(17,.i a),(18,.i b_)] {} (TL.v (sV (binOp .rem 3 (.i a) (.i b_))) 19 (.i (a.tmod b_)) (fun w hM=>Bo (SZ hr1 h1)) {} (Zc 8 [] [(21,.b ((a.tmod b_) != 0))] {} (Zb rfl (TC.cond ((a.tmod b_) != 0) rfl Kr (fun h2=>?_) (fun h2=>?_)))))
  ·exact TC.region (Zc 3 [] [(6,.i (w64 (r1.1+1)))] {} (Zv (Zc 4 [] [(4,.i (w64 (r1.1+1))),(5,.i r1.2)] {} (Zb rfl (TC.ret (TE.ret [] (.tuple #[.i (w64 (r1.1+1)),.i r1.2]) {} (by unfold Qs;refine eS (a:=(w64 (r1.1+1),r1.2)) (fun (z:Int×Int)=>(.tuple #[.i z.1,.i z.2]:Value)) ?_;subst hr1;exact Zk h1 (Zk h2 (rfl)))))))))
  ·exact ZI (Zc 4 [] [(4,.i r1.1),(5,.i r1.2)] {} (Zb rfl (TC.ret (TE.ret [] (.tuple #[.i r1.1,.i r1.2]) {} (by unfold Qs;refine eS (a:=(r1.1,r1.2)) (fun (z:Int×Int)=>(.tuple #[.i z.1,.i z.2]:Value)) ?_;subst hr1;exact Zk h1 (Zd h2 (rfl)))))))
 ·exact Zc 8 [] [(21,.b false)] {} (Zb rfl (Jr rfl Kr (ZI (Zc 4 [] [(4,.i r1.1),(5,.i r1.2)] {} (Zb rfl (TC.ret (TE.ret [] (.tuple #[.i r1.1,.i r1.2]) {} (by unfold Qs;refine eS (a:=(r1.1,r1.2)) (fun (z:Int×Int)=>(.tuple #[.i z.1,.i z.2]:Value)) ?_;subst hr1;exact Zd h1 (rfl)))))))))
def Jx (n:Int) (low:Int) (high:Int):Int :=
 cond ((decide (n<low))||(decide (low>high))) (
  low) (
  cond (decide (n>high)) (
   high) (
   n))
theorem Wp (n:Int) (low:Int) (high:Int) (w:World):Calls Tryz.prog 83 #[.int .i64 n,.int .i64 low,.int .i64 high] w (Ret w (.int .i64 (Jx n low high))):=by
 refine Zo (vs:=[.i n,.i low,.i high]) (w:=w) Tryz.func83 rfl Tryz.ntmps83 rfl (Ze (Zc 1 [] [(6,.i 0)] {} (Zz (TC.block (Ze (Zc 4 [] [(11,.b (decide (n<low)))] {} (XT 11 (decide (n<low)) 8 [] [] (fun β=>[(15,.b (β||(decide (low>high))))]) Kr {} {} (Zc 9 [] [(7,.b ((decide (n<low))||(decide (low>high))))] {} (Zb rfl (TC.cond ((decide (n<low))||(decide (low>high))) rfl Kr (fun h1=>?_) (fun h1=>?_)))))))))))
 ·refine Ze (Zc 2 [] [(6,.i low)] {} (Zb rfl (TC.ret (ZY (Zq ?_)))))
  exact TE.ret [] (.i low) {} (by unfold Jx;refine eS (fun z=>(.i z:Value)) ?_;exact Zk h1 (rfl))
 ·refine Ze (Zc 4 [] [(17,.b (decide (n>high)))] {} (Zb rfl (TC.cond (decide (n>high)) rfl Kr (fun h2=>?_) (fun h2=>?_))))
  ·refine Ze (Zc 2 [] [(6,.i high)] {} (Zb rfl (TC.ret (ZY (Zq ?_)))))
   exact TE.ret [] (.i high) {} (by unfold Jx;refine eS (fun z=>(.i z:Value)) ?_;exact Zd h1 (Zk h2 (rfl)))
  ·exact TC.skip (Yr (YZ (Zc 2 [] [(6,.i n)] {} (Zb rfl (TC.ret (TE.ret [] (.i n) {} (by unfold Jx;refine eS (fun z=>(.i z:Value)) ?_;exact Zd h1 (Zd h2 (rfl)))))))))
def X8 (t:Track):Int :=
 let r1:=ZD (⟨t.Time,t.At,t.Height,t.Code,0⟩:Zm)
 cond (((r1 != 0)||(decide (t.Radius<0)))||(decide (t.Radius>4000000))) (
  4) (
  0)
theorem Ux (t:Track) (w:World):Calls Tryz.prog 122 #[Track.v t] w (Ret w (.int .i64 (X8 t))):=by
 refine Zo (vs:=[Track.v t]) (w:=w) Tryz.func122 rfl Tryz.ntmps122 rfl (Ze (ZH 1 (fun b1=>.p0 b1) (fun b1=>Bk b1 (Track.c t) 70) (fun b1=>{}) (fun b1=>Zc 2 [] [(2,.i 0)] {} (Zz (Ze (Zc 9 [0,0,0,0] [(11,Zm.v (⟨t.Time,t.At,t.Height,t.Code,0⟩:Zm))] {} (TL.c 12 (ZD (⟨t.Time,t.At,t.Height,t.Code,0⟩:Zm)) (fun r1=>.i r1) (fun w _=>Qc (⟨t.Time,t.At,t.Height,t.Code,0⟩:Zm) w) {} (fun r1 hr1=>Zc 12 [] [(14,.b (r1 != 0))] {} (XT 14 (r1 != 0) 16 [] [0] (fun β=>[(18,.b (β||(decide (t.Radius<0))))]) Kr {} {} (Zc 17 [] [(19,.b ((r1 != 0)||(decide (t.Radius<0))))] {} (XT 19 ((r1 != 0)||(decide (t.Radius<0))) 21 [] [0] (fun β=>[(23,.b (β||(decide (t.Radius>4000000))))]) Kr {} {} (Zb rfl (TC.cond (((r1 != 0)||(decide (t.Radius<0)))||(decide (t.Radius>4000000))) rfl Kr (fun h1=>?_) (fun h1=>?_))))))))))))))
 ·exact Ze (Zc 1 [] [(2,.i 4)] {} (Zb rfl (TC.ret (Zq (TE.ret [] (.i 4) {} (by unfold X8;refine eS (fun z=>(.i z:Value)) ?_;subst hr1;exact Zk h1 (rfl)))))))
 ·exact ZI (Zc 1 [] [(2,.i 0)] {} (Zb rfl (TC.ret (TE.ret [] (.i 0) {} (by unfold X8;refine eS (fun z=>(.i z:Value)) ?_;subst hr1;exact Zd h1 (rfl))))))
def JL (xo:Int) (qo:Int) (ze:Int):Int×Int :=
 cond ((((decide (xo<0))||(decide (xo>409600)))||(decide (qo<0)))||(decide (qo>20))) (
  (0,4)) (
  cond ((decide (ze<0))||(decide (ze>600))) (
   (0,12)) (
   cond (ze==0) (
    (0,0)) (
    let r1:=Qs (w64 (xo*ze)) 16
    let r2:=Qs (w64 ((w64 (qo*ze))*ze)) 2
    (w64 ((w64 (r1.1+r2.1))+2),0))))
theorem Na (xo:Int) (qo:Int) (ze:Int) (w:World):Calls Tryz.prog 84 #[.int .i64 xo,.int .i64 qo,.int .i64 ze] w (Ret w (.tuple #[.int .i64 ((JL xo qo ze).1),.int .i64 ((JL xo qo ze).2)])):=by
 refine Zo (vs:=[.i xo,.i qo,.i ze]) (w:=w) Tryz.func84 rfl Tryz.ntmps84 rfl (Ze (Zc 2 [] [(6,.i 0),(7,.i 0)] {} (Zz (TC.block (Ze (Zc 3 [] [(15,.b (decide (xo<0)))] {} (XT 15 (decide (xo<0)) 6 [] [] (fun β=>[(18,.b (β||(decide (xo>409600))))]) Kr {} {} (Zc 7 [] [(19,.b ((decide (xo<0))||(decide (xo>409600))))] {} (XT 19 ((decide (xo<0))||(decide (xo>409600))) 10 [] [] (fun β=>[(22,.b (β||(decide (qo<0))))]) Kr {} {} (Zc 11 [] [(23,.b (((decide (xo<0))||(decide (xo>409600)))||(decide (qo<0))))] {} (XT 23 (((decide (xo<0))||(decide (xo>409600)))||(decide (qo<0))) 14 [] [] (fun β=>[(26,.b (β||(decide (qo>20))))]) Kr {} {} (Zc 15 [] [(12,.b ((((decide (xo<0))||(decide (xo>409600)))||(decide (qo<0)))||(decide (qo>20))))] {} (Zb rfl (TC.cond ((((decide (xo<0))||(decide (xo>409600)))||(decide (qo<0)))||(decide (qo>20))) rfl Kr (fun h1=>?_) (fun h1=>?_)))))))))))))))
 ·refine Ze (Zc 2 [] [(6,.i 0),(7,.i 4)] {} (Zb rfl (TC.ret (ZY (Zq ?_)))))
  exact TE.ret [] (.tuple #[.i 0,.i 4]) {} (by unfold JL;refine eS (a:=(0,4)) (fun (z:Int×Int)=>(.tuple #[.i z.1,.i z.2]:Value)) ?_;exact Zk h1 (rfl))
 ·refine Ze (Zc 3 [] [(30,.b (decide (ze<0)))] {} (XT 30 (decide (ze<0)) 6 [] [] (fun β=>[(33,.b (β||(decide (ze>600))))]) Kr {} {} (Zc 7 [] [(27,.b ((decide (ze<0))||(decide (ze>600))))] {} (Zb rfl (TC.cond ((decide (ze<0))||(decide (ze>600))) rfl Kr (fun h2=>?_) (fun h2=>?_))))))
  ·refine Ze (Zc 2 [] [(6,.i 0),(7,.i 12)] {} (Zb rfl (TC.ret (ZY (Zq ?_)))))
   exact TE.ret [] (.tuple #[.i 0,.i 12]) {} (by unfold JL;refine eS (a:=(0,12)) (fun (z:Int×Int)=>(.tuple #[.i z.1,.i z.2]:Value)) ?_;exact Zd h1 (Zk h2 (rfl)))
  ·refine Ze (Zc 3 [] [(34,.b (ze==0))] {} (Zb rfl (TC.cond (ze==0) rfl Kr (fun h3=>?_) (fun h3=>?_))))
   ·refine Ze (Zc 2 [] [(6,.i 0),(7,.i 0)] {} (Zb rfl (TC.ret (ZY (Zq ?_)))))
    exact TE.ret [] (.tuple #[.i 0,.i 0]) {} (by unfold JL;refine eS (a:=(0,0)) (fun (z:Int×Int)=>(.tuple #[.i z.1,.i z.2]:Value)) ?_;exact Zd h1 (Zd h2 (Zk h3 (rfl))))
   ·exact TC.skip (Yr (YZ (Zc 3 [] [(40,.i (w64 (xo*ze)))] {} (TL.c 41 (Qs (w64 (xo*ze)) 16) (fun r1=>.tuple #[.i r1.1,.i r1.2]) (fun w _=>VB (w64 (xo*ze)) 16 w) {} (fun r1 hr1=>Zc 9 [] [(8,.i r1.1)] {} (Zv (Zc 5 [] [(49,.i (w64 ((w64 (qo*ze))*ze)))] {} (TL.c 50 (Qs (w64 ((w64 (qo*ze))*ze)) 2) (fun r2=>.tuple #[.i r2.1,.i r2.2]) (fun w _=>VB (w64 ((w64 (qo*ze))*ze)) 2 w) {} (fun r2 hr2=>Zc 11 [] [(10,.i r2.1)] {} (Zv (Zc 6 [] [(6,.i (w64 ((w64 (r1.1+r2.1))+2))),(7,.i 0)] {} (Zb rfl (TC.ret (TE.ret [] (.tuple #[.i (w64 ((w64 (r1.1+r2.1))+2)),.i 0]) {} (by unfold JL;refine eS (a:=(w64 ((w64 (r1.1+r2.1))+2),0)) (fun (z:Int×Int)=>(.tuple #[.i z.1,.i z.2]:Value)) ?_;subst hr1 hr2;exact Zd h1 (Zd h2 (Zd h3 (rfl))))))))))))))))))
def Yw (n:Int) (low:Int) (high:Int):Bool :=
 (decide (n<low))||(decide (n>high))
theorem QG (n:Int) (low:Int) (high:Int) (w:World):Calls Tryz.prog 81 #[.int .i64 n,.int .i64 low,.int .i64 high] w (Ret w (.bool (Yw n low high))):=by
 exact Zo (vs:=[.i n,.i low,.i high]) (w:=w) Tryz.func81 rfl Tryz.ntmps81 rfl (Ze (Zc 1 [] [(6,.b false)] {} (Zv (Zc 4 [] [(10,.b (decide (n<low)))] {} (XT 10 (decide (n<low)) 8 [] [] (fun β=>[(14,.b (β||(decide (n>high))))]) Kr {} {} (Zc 9 [] [(6,.b ((decide (n<low))||(decide (n>high))))] {} (Zb rfl (TC.ret (TE.ret [] (.b ((decide (n<low))||(decide (n>high)))) {} (by unfold Yw;refine eS (fun z=>(.b z:Value)) ?_;exact rfl))))))))))
def ZL (f:Za):Int :=
 let r1:=X8 f.Track
 cond (r1 != 0) (
  r1) (
  let r2:=Yw f.Track.Speed.X (-12800) 12800
  cond r2 (
   4) (
   let r3:=Yw f.Track.Speed.Y (-12800) 12800
   cond r3 (
    4) (
    let r4:=Yw f.Track.Rate (-3200) 3200
    cond r4 (
     4) (
     let r5:=Yw f.Slack 0 409600
     cond (((r5||(decide (f.Track.ID<0)))||(decide (f.Track.Hits<0)))||(decide (f.Track.Misses<0))) (
      4) (
      let r6:=Yw f.Track.State 0 2
      cond r6 (
       1) (
       let r7:=ZD f.Last
       cond (r7 != 0) (
        r7) (
        cond (decide (f.Last.Time>f.Track.Time)) (
         12) (
         0))))))))
set_option maxHeartbeats 4000000 in
theorem QK (f:Za) (w:World):Calls Tryz.prog 80 #[Za.v f] w (Ret w (.int .i64 (ZL f))):=by
 refine Zo (vs:=[Za.v f]) (w:=w) Tryz.func80 rfl Tryz.ntmps80 rfl (Ze (ZH 1 (fun b1=>.p0 b1) (fun b1=>Bk b1 (Za.c f) 107) (fun b1=>{}) (fun b1=>Zc 2 [] [(2,.i 0)] {} (Zv (Zc 2 [0] [(7,Track.v f.Track)] {} (ZH 3 (fun b2=>.p0 b2) (fun b2=>Bk b2 (Track.c Track.zero) 70) (fun b2=>{}) (fun b2=>Ym 0 (Bk b2 (Track.c f.Track) 70) (fun _=>{}) (Zz (Ze (Zc 1 [0] [(8,Track.v f.Track)] {} (TL.c 9 (X8 f.Track) (fun r1=>.i r1) (fun w _=>Ux f.Track w) {} (fun r1 hr1=>Zc 3 [] [(4,.i r1)] {} (Zv (Zc 2 [] [(11,.b (r1 != 0))] {} (Zb rfl (TC.cond (r1 != 0) rfl Kr (fun h1=>?_) (fun h1=>?_)))))))))))))))))
 ·exact Ze (Zc 2 [] [(2,.i r1)] {} (Zb rfl (TC.ret (Zq (TE.ret [] (.i r1) {} (by unfold ZL;refine eS (fun z=>(.i z:Value)) ?_;subst hr1;exact Zk h1 (rfl)))))))
 ·refine Yg (TC.seq (Ze (Zc 3 [0] [(15,.i f.Track.Speed.X)] {} (TL.c 16 (Yw f.Track.Speed.X (-12800) 12800) (fun r2=>.b r2) (fun w _=>QG f.Track.Speed.X (-12800) 12800 w) {} (fun r2 hr2=>Zc 5 [] [(17,.b r2)] {} (Yo 17 r2 Kr (fun h2=>?_) (fun h2=>?_)))))))
  ·exact Zc 35 [] [(47,.b true)] {} (Zb rfl (Xo rfl Kr (Ze (Zc 1 [] [(2,.i 4)] {} (Zb rfl (TC.ret (Zq (TE.ret [] (.i 4) {} (by unfold ZL;refine eS (fun z=>(.i z:Value)) ?_;subst hr1 hr2;exact Zd h1 (Zk h2 (rfl)))))))))))
  ·refine Zc 8 [0] [(20,.i f.Track.Speed.Y)] {} (TL.c 21 (Yw f.Track.Speed.Y (-12800) 12800) (fun r3=>.b r3) (fun w _=>QG f.Track.Speed.Y (-12800) 12800 w) {} (fun r3 hr3=>Zc 11 [] [(23,.b r3)] {} (Yo 23 r3 Kr (fun h3=>?_) (fun h3=>?_))))
   ·exact Zc 35 [] [(47,.b true)] {} (Zb rfl (Xo rfl Kr (Ze (Zc 1 [] [(2,.i 4)] {} (Zb rfl (TC.ret (Zq (TE.ret [] (.i 4) {} (by unfold ZL;refine eS (fun z=>(.i z:Value)) ?_;subst hr1 hr2 hr3;exact Zd h1 (Zd h2 (Zk h3 (rfl))))))))))))
   ·refine Zc 13 [0] [(25,.i f.Track.Rate)] {} (TL.c 26 (Yw f.Track.Rate (-3200) 3200) (fun r4=>.b r4) (fun w _=>QG f.Track.Rate (-3200) 3200 w) {} (fun r4 hr4=>Zc 16 [] [(28,.b r4)] {} (Yo 28 r4 Kr (fun h4=>?_) (fun h4=>?_))))
    ·exact Zc 35 [] [(47,.b true)] {} (Zb rfl (Xo rfl Kr (Ze (Zc 1 [] [(2,.i 4)] {} (Zb rfl (TC.ret (Zq (TE.ret [] (.i 4) {} (by unfold ZL;refine eS (fun z=>(.i z:Value)) ?_;subst hr1 hr2 hr3 hr4;exact Zd h1 (Zd h2 (Zd h3 (Zk h4 (rfl)))))))))))))
    ·refine Zc 18 [1] [(30,.i f.Slack)] {} (TL.c 31 (Yw f.Slack 0 409600) (fun r5=>.b r5) (fun w _=>QG f.Slack 0 409600 w) {} (fun r5 hr5=>Zc 21 [] [(33,.b r5)] {} (XT 33 r5 25 [] [0] (fun β=>[(37,.b (β||(decide (f.Track.ID<0))))]) Kr {} {} (Zc 26 [] [(38,.b (r5||(decide (f.Track.ID<0))))] {} (XT 38 (r5||(decide (f.Track.ID<0))) 30 [] [0] (fun β=>[(42,.b (β||(decide (f.Track.Hits<0))))]) Kr {} {} (Zc 31 [] [(43,.b ((r5||(decide (f.Track.ID<0)))||(decide (f.Track.Hits<0))))] {} (XT 43 ((r5||(decide (f.Track.ID<0)))||(decide (f.Track.Hits<0))) 35 [] [0] (fun β=>[(47,.b (β||(decide (f.Track.Misses<0))))]) Kr {} {} (Zb rfl (TC.cond (((r5||(decide (f.Track.ID<0)))||(decide (f.Track.Hits<0)))||(decide (f.Track.Misses<0))) rfl Kr (fun h5=>?_) (fun h5=>?_))))))))))
     ·exact Ze (Zc 1 [] [(2,.i 4)] {} (Zb rfl (TC.ret (Zq (TE.ret [] (.i 4) {} (by unfold ZL;refine eS (fun z=>(.i z:Value)) ?_;subst hr1 hr2 hr3 hr4 hr5;exact Zd h1 (Zd h2 (Zd h3 (Zd h4 (Zk h5 (rfl)))))))))))
     ·refine Yg (TC.seq (Ze (Zc 2 [0] [(49,.i f.Track.State)] {} (TL.c 50 (Yw f.Track.State 0 2) (fun r6=>.b r6) (fun w _=>QG f.Track.State 0 2 w) {} (fun r6 hr6=>Zb rfl (TC.cond r6 rfl Kr (fun h6=>?_) (fun h6=>?_)))))))
      ·exact Ze (Zc 1 [] [(2,.i 1)] {} (Zb rfl (TC.ret (Zq (TE.ret [] (.i 1) {} (by unfold ZL;refine eS (fun z=>(.i z:Value)) ?_;subst hr1 hr2 hr3 hr4 hr5 hr6;exact Zd h1 (Zd h2 (Zd h3 (Zd h4 (Zd h5 (Zk h6 (rfl))))))))))))
      ·refine Yg (TC.seq (Ze (Zc 2 [1] [(52,Zm.v f.Last)] {} (TL.c 53 (ZD f.Last) (fun r7=>.i r7) (fun w _=>Qc f.Last w) {} (fun r7 hr7=>Zc 4 [] [(5,.i r7)] {} (Zv (Zc 2 [] [(55,.b (r7 != 0))] {} (Zb rfl (TC.cond (r7 != 0) rfl Kr (fun h7=>?_) (fun h7=>?_))))))))))
       ·exact Ze (Zc 2 [] [(2,.i r7)] {} (Zb rfl (TC.ret (Zq (TE.ret [] (.i r7) {} (by unfold ZL;refine eS (fun z=>(.i z:Value)) ?_;subst hr1 hr2 hr3 hr4 hr5 hr6 hr7;exact Zd h1 (Zd h2 (Zd h3 (Zd h4 (Zd h5 (Zd h6 (Zk h7 (rfl)))))))))))))
       ·refine Yg (TC.seq (Ze (Zc 6 [1,0] [(62,.b (decide (f.Last.Time>f.Track.Time)))] {} (Zb rfl (TC.cond (decide (f.Last.Time>f.Track.Time)) rfl Kr (fun h8=>?_) (fun h8=>?_))))))
        ·exact Ze (Zc 1 [] [(2,.i 12)] {} (Zb rfl (TC.ret (Zq (TE.ret [] (.i 12) {} (by unfold ZL;refine eS (fun z=>(.i z:Value)) ?_;subst hr1 hr2 hr3 hr4 hr5 hr6 hr7;exact Zd h1 (Zd h2 (Zd h3 (Zd h4 (Zd h5 (Zd h6 (Zd h7 (Zk h8 (rfl))))))))))))))
        ·exact ZI (Zc 1 [] [(2,.i 0)] {} (Zb rfl (TC.ret (TE.ret [] (.i 0) {} (by unfold ZL;refine eS (fun z=>(.i z:Value)) ?_;subst hr1 hr2 hr3 hr4 hr5 hr6 hr7;exact Zd h1 (Zd h2 (Zd h3 (Zd h4 (Zd h5 (Zd h6 (Zd h7 (Zd h8 (rfl)))))))))))))
def YM (s:Zm):Za×Int :=
 let r1:=ZD s
 cond (r1 != 0) (
  ((⟨⟨0,0,0,⟨0,0⟩,⟨0,0⟩,0,0,0,0,0,0⟩,0,⟨0,⟨0,0⟩,0,0,0⟩⟩:Za),r1)) (
  ((⟨⟨0,0,s.Time,s.At,⟨0,0⟩,s.Height,0,s.Error,s.Code,1,0⟩,6400,s⟩:Za),0))
theorem BL (s:Zm) (w:World):Calls Tryz.prog 51 #[Zm.v s] w (Ret w (.tuple #[Za.v ((YM s).1),.int .i64 ((YM s).2)])):=by
 refine Zo (vs:=[Zm.v s]) (w:=w) Tryz.func51 rfl Tryz.ntmps51 rfl (Ze (ZH 1 (fun b1=>.p0 b1) (fun b1=>Bk b1 (Zm.c s) 46) (fun b1=>{}) (fun b1=>ZH 2 (fun b2=>.p0 b2) (fun b2=>Bk b2 (Za.c Za.zero) 107) (fun b2=>{}) (fun b2=>Zc 3 [] [(3,.i 0)] {} (Zz (Ze (Zc 1 [1] [(5,Zm.v s)] {} (TL.c 6 (ZD s) (fun r1=>.i r1) (fun w _=>Qc s w) {} (fun r1 hr1=>Zc 3 [] [(4,.i r1)] {} (Zv (Zc 2 [] [(8,.b (r1 != 0))] {} (Zb rfl (TC.cond (r1 != 0) rfl Kr (fun h1=>?_) (fun h1=>?_))))))))))))))
 ·exact Ze (Zc 2 [] [(9,Za.v Za.zero),(10,.i r1)] {} (Ym 0 (Bk b2 (Za.c Za.zero) 107) (fun _=>{}) (Zc 4 [] [(3,.i r1)] {} (Zb rfl (TC.ret (Zq (TE.ret [0] (.tuple #[Za.v (⟨⟨0,0,0,⟨0,0⟩,⟨0,0⟩,0,0,0,0,0,0⟩,0,⟨0,⟨0,0⟩,0,0,0⟩⟩:Za),.i r1]) {} (by unfold YM;refine eS (a:=((⟨⟨0,0,0,⟨0,0⟩,⟨0,0⟩,0,0,0,0,0,0⟩,0,⟨0,⟨0,0⟩,0,0,0⟩⟩:Za),r1)) (fun (z:Za×Int)=>(.tuple #[Za.v z.1,.i z.2]:Value)) ?_;subst hr1;exact Zk h1 (rfl)))))))))
 ·exact ZI (Zc 13 [1,1,1,1,1,1] [(23,Za.v (⟨⟨0,0,s.Time,s.At,⟨0,0⟩,s.Height,0,s.Error,s.Code,1,0⟩,6400,s⟩:Za))] {} (Ym 0 (Bk b2 (Za.c (⟨⟨0,0,s.Time,s.At,⟨0,0⟩,s.Height,0,s.Error,s.Code,1,0⟩,6400,s⟩:Za)) 107) (fun _=>{}) (Zc 15 [] [(3,.i 0)] {} (Zb rfl (TC.ret (TE.ret [0] (.tuple #[Za.v (⟨⟨0,0,s.Time,s.At,⟨0,0⟩,s.Height,0,s.Error,s.Code,1,0⟩,6400,s⟩:Za),.i 0]) {} (by unfold YM;refine eS (a:=((⟨⟨0,0,s.Time,s.At,⟨0,0⟩,s.Height,0,s.Error,s.Code,1,0⟩,6400,s⟩:Za),0)) (fun (z:Za×Int)=>(.tuple #[Za.v z.1,.i z.2]:Value)) ?_;subst hr1;exact Zd h1 (rfl))))))))
def Xh (a:Int) (b_:Int):Int :=
 let r1:=Qd a b_
 r1.1
theorem J3 (a:Int) (b_:Int) (w:World):Calls Tryz.prog 82 #[.int .i64 a,.int .i64 b_] w (Ret w (.int .i64 (Xh a b_))):=by
 exact Zo (vs:=[.i a,.i b_]) (w:=w) Tryz.func82 rfl Tryz.ntmps82 rfl (Ze (Zc 1 [] [(4,.i 0)] {} (Zv (Zc 2 [] [(8,.i a),(9,.i b_)] {} (TL.c 10 (Qd a b_) (fun r1=>.tuple #[.i r1.1,.i r1.2]) (fun w _=>Wn a b_ w) {} (fun r1 hr1=>Zc 8 [] [(5,.i r1.1)] {} (Zv (Zc 2 [] [(4,.i r1.1)] {} (Zb rfl (TC.ret (TE.ret [] (.i r1.1) {} (by unfold Xh;refine eS (fun z=>(.i z:Value)) ?_;subst hr1;exact rfl))))))))))))
def KU (a:Int) (b_:Int):Int :=
 let r1:=Qs a b_
 r1.1
theorem G1 (a:Int) (b_:Int) (w:World):Calls Tryz.prog 90 #[.int .i64 a,.int .i64 b_] w (Ret w (.int .i64 (KU a b_))):=by
 exact Zo (vs:=[.i a,.i b_]) (w:=w) Tryz.func90 rfl Tryz.ntmps90 rfl (Ze (Zc 1 [] [(4,.i 0)] {} (Zv (Zc 2 [] [(8,.i a),(9,.i b_)] {} (TL.c 10 (Qs a b_) (fun r1=>.tuple #[.i r1.1,.i r1.2]) (fun w _=>VB a b_ w) {} (fun r1 hr1=>Zc 8 [] [(5,.i r1.1)] {} (Zv (Zc 2 [] [(4,.i r1.1)] {} (Zb rfl (TC.ret (TE.ret [] (.i r1.1) {} (by unfold KU;refine eS (fun z=>(.i z:Value)) ?_;subst hr1;exact rfl))))))))))))
def Ye (f:Za) (time:Int) (qo:Int):Za×Int :=
 let r1:=ZL f
 cond (r1 != 0) (
  ((⟨⟨0,0,0,⟨0,0⟩,⟨0,0⟩,0,0,0,0,0,0⟩,0,⟨0,⟨0,0⟩,0,0,0⟩⟩:Za),r1)) (
  let r2:=Yw time 0 200000
  cond r2 (
   ((⟨⟨0,0,0,⟨0,0⟩,⟨0,0⟩,0,0,0,0,0,0⟩,0,⟨0,⟨0,0⟩,0,0,0⟩⟩:Za),4)) (
   let r3:=Yw qo 0 20
   cond r3 (
    ((⟨⟨0,0,0,⟨0,0⟩,⟨0,0⟩,0,0,0,0,0,0⟩,0,⟨0,⟨0,0⟩,0,0,0⟩⟩:Za),4)) (
    let r4:=Yw (w64 (time-f.Track.Time)) 0 600
    cond r4 (
     ((⟨⟨0,0,0,⟨0,0⟩,⟨0,0⟩,0,0,0,0,0,0⟩,0,⟨0,⟨0,0⟩,0,0,0⟩⟩:Za),12)) (
     cond ((w64 (time-f.Track.Time))==0) (
      (f,0)) (
      let r5:=Xh (w64 (f.Track.Speed.X*(w64 (time-f.Track.Time)))) 16
      let r6:=Xh (w64 (f.Track.Speed.Y*(w64 (time-f.Track.Time)))) 16
      let r7:=JE f.Track.At (⟨r5,r6⟩:P)
      let r8:=Xh (w64 (f.Track.Rate*(w64 (time-f.Track.Time)))) 16
      let r9:=Jx (w64 (f.Track.Height+r8)) 0 60000
      let r10:=JL f.Slack qo (w64 (time-f.Track.Time))
      let r11:=ZL (⟨⟨f.Track.ID,f.Track.State,time,r7,f.Track.Speed,r9,f.Track.Rate,w64 (f.Track.Radius+r10.1),f.Track.Code,f.Track.Hits,f.Track.Misses⟩,w64 (f.Slack+(w64 ((w64 (16*qo))*(w64 (time-f.Track.Time))))),f.Last⟩:Za)
      cond (r11 != 0) (
       ((⟨⟨0,0,0,⟨0,0⟩,⟨0,0⟩,0,0,0,0,0,0⟩,0,⟨0,⟨0,0⟩,0,0,0⟩⟩:Za),8)) (
       ((⟨⟨f.Track.ID,f.Track.State,time,r7,f.Track.Speed,r9,f.Track.Rate,w64 (f.Track.Radius+r10.1),f.Track.Code,f.Track.Hits,f.Track.Misses⟩,w64 (f.Slack+(w64 ((w64 (16*qo))*(w64 (time-f.Track.Time))))),f.Last⟩:Za),0)))))))
set_option maxHeartbeats 4000000 in
theorem UL (f:Za) (time:Int) (qo:Int) (w:World):Calls Tryz.prog 45 #[Za.v f,.int .i64 time,.int .i64 qo] w (Ret w (.tuple #[Za.v ((Ye f time qo).1),.int .i64 ((Ye f time qo).2)])):=by
 refine Zo (vs:=[Za.v f,.i time,.i qo]) (w:=w) Tryz.func45 rfl Tryz.ntmps45 rfl (Ze (ZH 3 (fun b1=>.p0 b1) (fun b1=>Bk b1 (Za.c f) 107) (fun b1=>{}) (fun b1=>ZH 6 (fun b2=>.p0 b2) (fun b2=>Bk b2 (Za.c Za.zero) 107) (fun b2=>{}) (fun b2=>Zc 3 [] [(7,.i 0)] {} (Zv (Zc 1 [] [(14,Za.v Za.zero)] {} (ZH 8 (fun b3=>.p0 b3) (fun b3=>Bk b3 (Za.c Za.zero) 107) (fun b3=>{}) (fun b3=>Ym 0 (Bk b3 (Za.c Za.zero) 107) (fun _=>{}) (Zz (Ze (Zc 1 [2] [(15,Za.v f)] {} (TL.c 16 (ZL f) (fun r1=>.i r1) (fun w _=>QK f w) {} (fun r1 hr1=>Zc 3 [] [(9,.i r1)] {} (Zv (Zc 2 [] [(18,.b (r1 != 0))] {} (Zb rfl (TC.cond (r1 != 0) rfl Kr (fun h1=>?_) (fun h1=>?_))))))))))))))))))
 ·exact Ze (Zc 2 [0] [(19,Za.v (⟨⟨0,0,0,⟨0,0⟩,⟨0,0⟩,0,0,0,0,0,0⟩,0,⟨0,⟨0,0⟩,0,0,0⟩⟩:Za)),(20,.i r1)] {} (Ym 1 (Bk b2 (Za.c Za.zero) 107) (fun _=>{}) (Zc 4 [] [(7,.i r1)] {} (Zb rfl (TC.ret (Zq (TE.ret [1] (.tuple #[Za.v (⟨⟨0,0,0,⟨0,0⟩,⟨0,0⟩,0,0,0,0,0,0⟩,0,⟨0,⟨0,0⟩,0,0,0⟩⟩:Za),.i r1]) {} (by unfold Ye;refine eS (a:=((⟨⟨0,0,0,⟨0,0⟩,⟨0,0⟩,0,0,0,0,0,0⟩,0,⟨0,⟨0,0⟩,0,0,0⟩⟩:Za),r1)) (fun (z:Za×Int)=>(.tuple #[Za.v z.1,.i z.2]:Value)) ?_;subst hr1;exact Zk h1 (rfl)))))))))
 ·refine ZI (Zc 6 [2] [(10,.i (w64 (time-f.Track.Time)))] {} (Zz (TC.block (Ze (Zc 1 [] [(27,.i time)] {} (TL.c 28 (Yw time 0 200000) (fun r2=>.b r2) (fun w _=>QG time 0 200000 w) {} (fun r2 hr2=>Zc 3 [] [(29,.b r2)] {} (Yo 29 r2 Kr (fun h2=>?_) (fun h2=>?_)))))))))
  ·refine Zc 7 [] [(26,.b true)] {} (Zb rfl (Xo rfl Kr (Ze (Zc 1 [0] [(33,Za.v (⟨⟨0,0,0,⟨0,0⟩,⟨0,0⟩,0,0,0,0,0,0⟩,0,⟨0,⟨0,0⟩,0,0,0⟩⟩:Za))] {} (Ym 1 (Bk b2 (Za.c Za.zero) 107) (fun _=>{}) (Zc 3 [] [(7,.i 4)] {} (Zb rfl (TC.ret (ZY (Zq ?_))))))))))
   exact TE.ret [1] (.tuple #[Za.v (⟨⟨0,0,0,⟨0,0⟩,⟨0,0⟩,0,0,0,0,0,0⟩,0,⟨0,⟨0,0⟩,0,0,0⟩⟩:Za),.i 4]) {} (by unfold Ye;refine eS (a:=((⟨⟨0,0,0,⟨0,0⟩,⟨0,0⟩,0,0,0,0,0,0⟩,0,⟨0,⟨0,0⟩,0,0,0⟩⟩:Za),4)) (fun (z:Za×Int)=>(.tuple #[Za.v z.1,.i z.2]:Value)) ?_;subst hr1 hr2;exact Zd h1 (Zk h2 (rfl)))
  ·refine Zc 4 [] [(30,.i qo)] {} (TL.c 31 (Yw qo 0 20) (fun r3=>.b r3) (fun w _=>QG qo 0 20 w) {} (fun r3 hr3=>Zc 7 [] [(26,.b r3)] {} (Zb rfl (TC.cond r3 rfl Kr (fun h3=>?_) (fun h3=>?_)))))
   ·refine Ze (Zc 1 [0] [(33,Za.v (⟨⟨0,0,0,⟨0,0⟩,⟨0,0⟩,0,0,0,0,0,0⟩,0,⟨0,⟨0,0⟩,0,0,0⟩⟩:Za))] {} (Ym 1 (Bk b2 (Za.c Za.zero) 107) (fun _=>{}) (Zc 3 [] [(7,.i 4)] {} (Zb rfl (TC.ret (ZY (Zq ?_)))))))
    exact TE.ret [1] (.tuple #[Za.v (⟨⟨0,0,0,⟨0,0⟩,⟨0,0⟩,0,0,0,0,0,0⟩,0,⟨0,⟨0,0⟩,0,0,0⟩⟩:Za),.i 4]) {} (by unfold Ye;refine eS (a:=((⟨⟨0,0,0,⟨0,0⟩,⟨0,0⟩,0,0,0,0,0,0⟩,0,⟨0,⟨0,0⟩,0,0,0⟩⟩:Za),4)) (fun (z:Za×Int)=>(.tuple #[Za.v z.1,.i z.2]:Value)) ?_;subst hr1 hr2 hr3;exact Zd h1 (Zd h2 (Zk h3 (rfl))))
   ·refine Ze (Zc 1 [] [(35,.i (w64 (time-f.Track.Time)))] {} (TL.c 36 (Yw (w64 (time-f.Track.Time)) 0 600) (fun r4=>.b r4) (fun w _=>QG (w64 (time-f.Track.Time)) 0 600 w) {} (fun r4 hr4=>Zc 3 [] [(34,.b r4)] {} (Zb rfl (TC.cond r4 rfl Kr (fun h4=>?_) (fun h4=>?_))))))
    ·refine Ze (Zc 1 [0] [(37,Za.v (⟨⟨0,0,0,⟨0,0⟩,⟨0,0⟩,0,0,0,0,0,0⟩,0,⟨0,⟨0,0⟩,0,0,0⟩⟩:Za))] {} (Ym 1 (Bk b2 (Za.c Za.zero) 107) (fun _=>{}) (Zc 3 [] [(7,.i 12)] {} (Zb rfl (TC.ret (ZY (Zq ?_)))))))
     exact TE.ret [1] (.tuple #[Za.v (⟨⟨0,0,0,⟨0,0⟩,⟨0,0⟩,0,0,0,0,0,0⟩,0,⟨0,⟨0,0⟩,0,0,0⟩⟩:Za),.i 12]) {} (by unfold Ye;refine eS (a:=((⟨⟨0,0,0,⟨0,0⟩,⟨0,0⟩,0,0,0,0,0,0⟩,0,⟨0,⟨0,0⟩,0,0,0⟩⟩:Za),12)) (fun (z:Za×Int)=>(.tuple #[Za.v z.1,.i z.2]:Value)) ?_;subst hr1 hr2 hr3 hr4;exact Zd h1 (Zd h2 (Zd h3 (Zk h4 (rfl)))))
    ·refine Ze (Zc 3 [] [(38,.b ((w64 (time-f.Track.Time))==0))] {} (Zb rfl (TC.cond ((w64 (time-f.Track.Time))==0) rfl Kr (fun h5=>?_) (fun h5=>?_))))
     ·refine Ze (Zc 1 [2] [(41,Za.v f)] {} (Ym 1 (Bk b2 (Za.c f) 107) (fun _=>{}) (Zc 3 [] [(7,.i 0)] {} (Zb rfl (TC.ret (ZY (Zq ?_)))))))
      exact TE.ret [1] (.tuple #[Za.v f,.i 0]) {} (by unfold Ye;refine eS (a:=(f,0)) (fun (z:Za×Int)=>(.tuple #[Za.v z.1,.i z.2]:Value)) ?_;subst hr1 hr2 hr3 hr4;exact Zd h1 (Zd h2 (Zd h3 (Zd h4 (Zk h5 (rfl))))))
     ·refine TC.skip (Yr (YZ (Zc 2 [] [(11,.p0 b1)] {} (Zz (KW 25 Kr Kr (JA 12 [2,2] [(43,.p0 b1),(47,P.v f.Track.At),(54,.i (w64 (f.Track.Speed.X*(w64 (time-f.Track.Time)))))] {} (TQ.c 55 (Xh (w64 (f.Track.Speed.X*(w64 (time-f.Track.Time)))) 16) (fun r5=>.i r5) (fun w _=>J3 (w64 (f.Track.Speed.X*(w64 (time-f.Track.Time)))) 16 w) rfl {} (fun r5 hr5=>JA 20 [2] [(62,.i (w64 (f.Track.Speed.Y*(w64 (time-f.Track.Time)))))] {} (TQ.c 63 (Xh (w64 (f.Track.Speed.Y*(w64 (time-f.Track.Time)))) 16) (fun r6=>.i r6) (fun w _=>J3 (w64 (f.Track.Speed.Y*(w64 (time-f.Track.Time)))) 16 w) rfl {} (fun r6 hr6=>JA 22 [] [(64,P.v (⟨r5,r6⟩:P))] {} (TQ.c 65 (JE f.Track.At (⟨r5,r6⟩:P)) (fun r7=>P.v r7) (fun w _=>HT f.Track.At (⟨r5,r6⟩:P) w) rfl {} (fun r7 hr7=>JA 25 [] [(67,.pt b1 3)] {} (TQ.tail rfl (Ym 2 (Bk b1 (Za.c (⟨⟨f.Track.ID,f.Track.State,f.Track.Time,r7,f.Track.Speed,f.Track.Height,f.Track.Rate,f.Track.Radius,f.Track.Code,f.Track.Hits,f.Track.Misses⟩,f.Slack,f.Last⟩:Za)) 107) (fun _=>{}) (Zz (KW 16 Kr Kr (JA 11 [2,2] [(68,.p0 b1),(72,.i f.Track.Height),(78,.i (w64 (f.Track.Rate*(w64 (time-f.Track.Time)))))] {} (TQ.c 79 (Xh (w64 (f.Track.Rate*(w64 (time-f.Track.Time)))) 16) (fun r8=>.i r8) (fun w _=>J3 (w64 (f.Track.Rate*(w64 (time-f.Track.Time)))) 16 w) rfl {} (fun r8 hr8=>JA 13 [] [(80,.i (w64 (f.Track.Height+r8)))] {} (TQ.c 81 (Jx (w64 (f.Track.Height+r8)) 0 60000) (fun r9=>.i r9) (fun w _=>Wp (w64 (f.Track.Height+r8)) 0 60000 w) rfl {} (fun r9 hr9=>JA 16 [] [(83,.pt b1 7)] {} (TQ.tail rfl (Ym 2 (Bk b1 (Za.c (⟨⟨f.Track.ID,f.Track.State,f.Track.Time,r7,f.Track.Speed,r9,f.Track.Rate,f.Track.Radius,f.Track.Code,f.Track.Hits,f.Track.Misses⟩,f.Slack,f.Last⟩:Za)) 107) (fun _=>{}) (Zv (Zc 4 [2] [(86,.i f.Slack),(87,.i qo),(88,.i (w64 (time-f.Track.Time)))] {} (TL.c 89 (JL f.Slack qo (w64 (time-f.Track.Time))) (fun r10=>.tuple #[.i r10.1,.i r10.2]) (fun w _=>Na f.Slack qo (w64 (time-f.Track.Time)) w) {} (fun r10 zl=>Zc 10 [] [(12,.i r10.1)] {} (Zv (Zc 8 [2] [(97,.i (w64 (f.Track.Radius+r10.1))),(99,.pt b1 9)] {} (Ym 2 (Bk b1 (Za.c (⟨⟨f.Track.ID,f.Track.State,f.Track.Time,r7,f.Track.Speed,r9,f.Track.Rate,w64 (f.Track.Radius+r10.1),f.Track.Code,f.Track.Hits,f.Track.Misses⟩,f.Slack,f.Last⟩:Za)) 107) (fun _=>{}) (Zv (Zc 4 [] [(101,.i time),(103,.pt b1 2)] {} (Ym 2 (Bk b1 (Za.c (⟨⟨f.Track.ID,f.Track.State,time,r7,f.Track.Speed,r9,f.Track.Rate,w64 (f.Track.Radius+r10.1),f.Track.Code,f.Track.Hits,f.Track.Misses⟩,f.Slack,f.Last⟩:Za)) 107) (fun _=>{}) (Zv (Zc 8 [2] [(110,.i (w64 (f.Slack+(w64 ((w64 (16*qo))*(w64 (time-f.Track.Time))))))),(111,.pt b1 13)] {} (Ym 2 (Bk b1 (Za.c (⟨⟨f.Track.ID,f.Track.State,time,r7,f.Track.Speed,r9,f.Track.Rate,w64 (f.Track.Radius+r10.1),f.Track.Code,f.Track.Hits,f.Track.Misses⟩,w64 (f.Slack+(w64 ((w64 (16*qo))*(w64 (time-f.Track.Time))))),f.Last⟩:Za)) 107) (fun _=>{}) (Zz (Ze (Zc 1 [2] [(112,Za.v (⟨⟨f.Track.ID,f.Track.State,time,r7,f.Track.Speed,r9,f.Track.Rate,w64 (f.Track.Radius+r10.1),f.Track.Code,f.Track.Hits,f.Track.Misses⟩,w64 (f.Slack+(w64 ((w64 (16*qo))*(w64 (time-f.Track.Time))))),f.Last⟩:Za))] {} (TL.c 113 (ZL (⟨⟨f.Track.ID,f.Track.State,time,r7,f.Track.Speed,r9,f.Track.Rate,w64 (f.Track.Radius+r10.1),f.Track.Code,f.Track.Hits,f.Track.Misses⟩,w64 (f.Slack+(w64 ((w64 (16*qo))*(w64 (time-f.Track.Time))))),f.Last⟩:Za)) (fun r11=>.i r11) (fun w _=>QK (⟨⟨f.Track.ID,f.Track.State,time,r7,f.Track.Speed,r9,f.Track.Rate,w64 (f.Track.Radius+r10.1),f.Track.Code,f.Track.Hits,f.Track.Misses⟩,w64 (f.Slack+(w64 ((w64 (16*qo))*(w64 (time-f.Track.Time))))),f.Last⟩:Za) w) {} (fun r11 zo=>Zc 3 [] [(114,.b (r11 != 0))] {} (Zb rfl (TC.cond (r11 != 0) rfl Kr (fun h6=>?_) (fun h6=>?_))))))))))))))))))))))))))))))))))))))))))))
      ·exact Ze (Zc 1 [0] [(115,Za.v (⟨⟨0,0,0,⟨0,0⟩,⟨0,0⟩,0,0,0,0,0,0⟩,0,⟨0,⟨0,0⟩,0,0,0⟩⟩:Za))] {} (Ym 1 (Bk b2 (Za.c Za.zero) 107) (fun _=>{}) (Zc 3 [] [(7,.i 8)] {} (Zb rfl (TC.ret (Zq (TE.ret [1] (.tuple #[Za.v (⟨⟨0,0,0,⟨0,0⟩,⟨0,0⟩,0,0,0,0,0,0⟩,0,⟨0,⟨0,0⟩,0,0,0⟩⟩:Za),.i 8]) {} (by unfold Ye;refine eS (a:=((⟨⟨0,0,0,⟨0,0⟩,⟨0,0⟩,0,0,0,0,0,0⟩,0,⟨0,⟨0,0⟩,0,0,0⟩⟩:Za),8)) (fun (z:Za×Int)=>(.tuple #[Za.v z.1,.i z.2]:Value)) ?_;subst hr1 hr2 hr3 hr4 hr5 hr6 hr7 hr8 hr9 zl zo;exact Zd h1 (Zd h2 (Zd h3 (Zd h4 (Zd h5 (Zk h6 (rfl))))))))))))))
      ·exact ZI (Zc 1 [2] [(116,Za.v (⟨⟨f.Track.ID,f.Track.State,time,r7,f.Track.Speed,r9,f.Track.Rate,w64 (f.Track.Radius+r10.1),f.Track.Code,f.Track.Hits,f.Track.Misses⟩,w64 (f.Slack+(w64 ((w64 (16*qo))*(w64 (time-f.Track.Time))))),f.Last⟩:Za))] {} (Ym 1 (Bk b2 (Za.c (⟨⟨f.Track.ID,f.Track.State,time,r7,f.Track.Speed,r9,f.Track.Rate,w64 (f.Track.Radius+r10.1),f.Track.Code,f.Track.Hits,f.Track.Misses⟩,w64 (f.Slack+(w64 ((w64 (16*qo))*(w64 (time-f.Track.Time))))),f.Last⟩:Za)) 107) (fun _=>{}) (Zc 3 [] [(7,.i 0)] {} (Zb rfl (TC.ret (TE.ret [1] (.tuple #[Za.v (⟨⟨f.Track.ID,f.Track.State,time,r7,f.Track.Speed,r9,f.Track.Rate,w64 (f.Track.Radius+r10.1),f.Track.Code,f.Track.Hits,f.Track.Misses⟩,w64 (f.Slack+(w64 ((w64 (16*qo))*(w64 (time-f.Track.Time))))),f.Last⟩:Za),.i 0]) {} (by unfold Ye;refine eS (a:=((⟨⟨f.Track.ID,f.Track.State,time,r7,f.Track.Speed,r9,f.Track.Rate,w64 (f.Track.Radius+r10.1),f.Track.Code,f.Track.Hits,f.Track.Misses⟩,w64 (f.Slack+(w64 ((w64 (16*qo))*(w64 (time-f.Track.Time))))),f.Last⟩:Za),0)) (fun (z:Za×Int)=>(.tuple #[Za.v z.1,.i z.2]:Value)) ?_;subst hr1 hr2 hr3 hr4 hr5 hr6 hr7 hr8 hr9 zl zo;exact Zd h1 (Zd h2 (Zd h3 (Zd h4 (Zd h5 (Zd h6 (rfl)))))))))))))
def J4 (a:Int) (b_:Int) (g_:Int):Int :=
 let r1:=Xh (w64 ((w64 (b_-a))*g_)) 256
 w64 (a+r1)
theorem VI (a:Int) (b_:Int) (g_:Int) (w:World):Calls Tryz.prog 89 #[.int .i64 a,.int .i64 b_,.int .i64 g_] w (Ret w (.int .i64 (J4 a b_ g_))):=by
 exact Zo (vs:=[.i a,.i b_,.i g_]) (w:=w) Tryz.func89 rfl Tryz.ntmps89 rfl (Ze (Zc 1 [] [(6,.i 0)] {} (Zv (Zc 6 [] [(7,.i a),(12,.i (w64 ((w64 (b_-a))*g_)))] {} (TL.c 13 (Xh (w64 ((w64 (b_-a))*g_)) 256) (fun r1=>.i r1) (fun w _=>J3 (w64 ((w64 (b_-a))*g_)) 256 w) {} (fun r1 hr1=>Zc 9 [] [(6,.i (w64 (a+r1)))] {} (Zb rfl (TC.ret (TE.ret [] (.i (w64 (a+r1))) {} (by unfold J4;refine eS (fun z=>(.i z:Value)) ?_;subst hr1;exact rfl))))))))))
def Y0 (f:Za) (s:Zm) (qo:Int) (place:Int) (speed:Int):Za×Int :=
 let r1:=ZL f
 cond (r1 != 0) (
  ((⟨⟨0,0,0,⟨0,0⟩,⟨0,0⟩,0,0,0,0,0,0⟩,0,⟨0,⟨0,0⟩,0,0,0⟩⟩:Za),r1)) (
  let r2:=ZD s
  cond (r2 != 0) (
   ((⟨⟨0,0,0,⟨0,0⟩,⟨0,0⟩,0,0,0,0,0,0⟩,0,⟨0,⟨0,0⟩,0,0,0⟩⟩:Za),r2)) (
   let r3:=Yw place 0 256
   cond r3 (
    ((⟨⟨0,0,0,⟨0,0⟩,⟨0,0⟩,0,0,0,0,0,0⟩,0,⟨0,⟨0,0⟩,0,0,0⟩⟩:Za),4)) (
    let r4:=Yw speed 0 256
    cond r4 (
     ((⟨⟨0,0,0,⟨0,0⟩,⟨0,0⟩,0,0,0,0,0,0⟩,0,⟨0,⟨0,0⟩,0,0,0⟩⟩:Za),4)) (
     cond (decide ((w64 (s.Time-f.Last.Time))≤0)) (
      ((⟨⟨0,0,0,⟨0,0⟩,⟨0,0⟩,0,0,0,0,0,0⟩,0,⟨0,⟨0,0⟩,0,0,0⟩⟩:Za),12)) (
      let r5:=Ye f s.Time qo
      cond (r5.2 != 0) (
       ((⟨⟨0,0,0,⟨0,0⟩,⟨0,0⟩,0,0,0,0,0,0⟩,0,⟨0,⟨0,0⟩,0,0,0⟩⟩:Za),r5.2)) (
       let r6:=Y3 r5.1.Track.At s.At (w64 (r5.1.Track.Radius+s.Error))
       cond (!r6) (
        ((⟨⟨0,0,0,⟨0,0⟩,⟨0,0⟩,0,0,0,0,0,0⟩,0,⟨0,⟨0,0⟩,0,0,0⟩⟩:Za),8)) (
        let r7:=J4 r5.1.Track.At.X s.At.X place
        let r8:=J4 r5.1.Track.At.Y s.At.Y place
        let r9:=KU (w64 ((w64 ((w64 (256-place))*r5.1.Track.Radius))+(w64 (place*s.Error)))) 256
        let r10:=Xh (w64 (16*(w64 (s.At.X-f.Last.At.X)))) (w64 (s.Time-f.Last.Time))
        let r11:=Xh (w64 (16*(w64 (s.At.Y-f.Last.At.Y)))) (w64 (s.Time-f.Last.Time))
        let r12:=J4 r5.1.Track.Speed.X r10 speed
        let r13:=J4 r5.1.Track.Speed.Y r11 speed
        let r14:=KU (w64 (16*(w64 (s.Error+f.Last.Error)))) (w64 (s.Time-f.Last.Time))
        let r15:=KU (w64 ((w64 ((w64 (256-speed))*r5.1.Slack))+(w64 (speed*(w64 ((w64 (r14+(w64 ((w64 (16*qo))*(w64 (s.Time-f.Last.Time))))))+2)))))) 256
        let r16:=Xh (w64 (16*(w64 (s.Height-f.Last.Height)))) (w64 (s.Time-f.Last.Time))
        let r17:=Jx r16 (-3200) 3200
        cond (s.Code != (-1)) (
         let r18:=ZL (⟨⟨r5.1.Track.ID,r5.1.Track.State,r5.1.Track.Time,⟨r7,r8⟩,⟨r12,r13⟩,s.Height,r17,w64 (r9+2),s.Code,w64 (r5.1.Track.Hits+1),0⟩,w64 (r15+2),s⟩:Za)
         cond (r18 != 0) (
          ((⟨⟨0,0,0,⟨0,0⟩,⟨0,0⟩,0,0,0,0,0,0⟩,0,⟨0,⟨0,0⟩,0,0,0⟩⟩:Za),8)) (
          ((⟨⟨r5.1.Track.ID,r5.1.Track.State,r5.1.Track.Time,⟨r7,r8⟩,⟨r12,r13⟩,s.Height,r17,w64 (r9+2),s.Code,w64 (r5.1.Track.Hits+1),0⟩,w64 (r15+2),s⟩:Za),0))) (
         let r19:=ZL (⟨⟨r5.1.Track.ID,r5.1.Track.State,r5.1.Track.Time,⟨r7,r8⟩,⟨r12,r13⟩,s.Height,r17,w64 (r9+2),r5.1.Track.Code,w64 (r5.1.Track.Hits+1),0⟩,w64 (r15+2),s⟩:Za)
         cond (r19 != 0) (
          ((⟨⟨0,0,0,⟨0,0⟩,⟨0,0⟩,0,0,0,0,0,0⟩,0,⟨0,⟨0,0⟩,0,0,0⟩⟩:Za),8)) (
          ((⟨⟨r5.1.Track.ID,r5.1.Track.State,r5.1.Track.Time,⟨r7,r8⟩,⟨r12,r13⟩,s.Height,r17,w64 (r9+2),r5.1.Track.Code,w64 (r5.1.Track.Hits+1),0⟩,w64 (r15+2),s⟩:Za),0))))))))))
set_option maxHeartbeats 4000000 in
theorem Bf (f:Za) (s:Zm) (qo:Int) (place:Int) (speed:Int) (w:World):Calls Tryz.prog 48 #[Za.v f,Zm.v s,.int .i64 qo,.int .i64 place,.int .i64 speed] w (Ret w (.tuple #[Za.v ((Y0 f s qo place speed).1),.int .i64 ((Y0 f s qo place speed).2)])):=by
 refine Zo (vs:=[Za.v f,Zm.v s,.i qo,.i place,.i speed]) (w:=w) Tryz.func48 rfl Tryz.ntmps48 rfl (Ze (ZH 5 (fun b1=>.p0 b1) (fun b1=>Bk b1 (Za.c f) 107) (fun b1=>{}) (fun b1=>ZH 6 (fun b2=>.p0 b2) (fun b2=>Bk b2 (Zm.c s) 46) (fun b2=>{}) (fun b2=>ZH 10 (fun b3=>.p0 b3) (fun b3=>Bk b3 (Za.c Za.zero) 107) (fun b3=>{}) (fun b3=>Zc 4 [] [(11,.i 0)] {} (Zv (Zc 1 [] [(22,Za.v Za.zero)] {} (ZH 12 (fun b4=>.p0 b4) (fun b4=>Bk b4 (Za.c Za.zero) 107) (fun b4=>{}) (fun b4=>Ym 0 (Bk b4 (Za.c Za.zero) 107) (fun _=>{}) (Zz (Ze (Zc 1 [3] [(23,Za.v f)] {} (TL.c 24 (ZL f) (fun r1=>.i r1) (fun w _=>QK f w) {} (fun r1 hr1=>Zc 3 [] [(13,.i r1)] {} (Zv (Zc 2 [] [(26,.b (r1 != 0))] {} (Zb rfl (TC.cond (r1 != 0) rfl Kr (fun h1=>?_) (fun h1=>?_)))))))))))))))))))
 ·exact Ze (Zc 2 [0] [(27,Za.v (⟨⟨0,0,0,⟨0,0⟩,⟨0,0⟩,0,0,0,0,0,0⟩,0,⟨0,⟨0,0⟩,0,0,0⟩⟩:Za)),(28,.i r1)] {} (Ym 1 (Bk b3 (Za.c Za.zero) 107) (fun _=>{}) (Zc 4 [] [(11,.i r1)] {} (Zb rfl (TC.ret (Zq (TE.ret [1] (.tuple #[Za.v (⟨⟨0,0,0,⟨0,0⟩,⟨0,0⟩,0,0,0,0,0,0⟩,0,⟨0,⟨0,0⟩,0,0,0⟩⟩:Za),.i r1]) {} (by unfold Y0;refine eS (a:=((⟨⟨0,0,0,⟨0,0⟩,⟨0,0⟩,0,0,0,0,0,0⟩,0,⟨0,⟨0,0⟩,0,0,0⟩⟩:Za),r1)) (fun (z:Za×Int)=>(.tuple #[Za.v z.1,.i z.2]:Value)) ?_;subst hr1;exact Zk h1 (rfl)))))))))
 ·refine Yg (TC.seq (Ze (Zc 1 [2] [(29,Zm.v s)] {} (TL.c 30 (ZD s) (fun r2=>.i r2) (fun w _=>Qc s w) {} (fun r2 hr2=>Zc 3 [] [(14,.i r2)] {} (Zv (Zc 2 [] [(32,.b (r2 != 0))] {} (Zb rfl (TC.cond (r2 != 0) rfl Kr (fun h2=>?_) (fun h2=>?_))))))))))
  ·exact Ze (Zc 2 [0] [(33,Za.v (⟨⟨0,0,0,⟨0,0⟩,⟨0,0⟩,0,0,0,0,0,0⟩,0,⟨0,⟨0,0⟩,0,0,0⟩⟩:Za)),(34,.i r2)] {} (Ym 1 (Bk b3 (Za.c Za.zero) 107) (fun _=>{}) (Zc 4 [] [(11,.i r2)] {} (Zb rfl (TC.ret (Zq (TE.ret [1] (.tuple #[Za.v (⟨⟨0,0,0,⟨0,0⟩,⟨0,0⟩,0,0,0,0,0,0⟩,0,⟨0,⟨0,0⟩,0,0,0⟩⟩:Za),.i r2]) {} (by unfold Y0;refine eS (a:=((⟨⟨0,0,0,⟨0,0⟩,⟨0,0⟩,0,0,0,0,0,0⟩,0,⟨0,⟨0,0⟩,0,0,0⟩⟩:Za),r2)) (fun (z:Za×Int)=>(.tuple #[Za.v z.1,.i z.2]:Value)) ?_;subst hr1 hr2;exact Zd h1 (Zk h2 (rfl))))))))))
  ·refine ZI (Zc 7 [2,3] [(15,.i (w64 (s.Time-f.Last.Time)))] {} (Zz (TC.block (Ze (Zc 1 [] [(42,.i place)] {} (TL.c 43 (Yw place 0 256) (fun r3=>.b r3) (fun w _=>QG place 0 256 w) {} (fun r3 hr3=>Zc 3 [] [(44,.b r3)] {} (Yo 44 r3 Kr (fun h3=>?_) (fun h3=>?_)))))))))
   ·refine Zc 7 [] [(41,.b true)] {} (Zb rfl (Xo rfl Kr (Ze (Zc 1 [0] [(48,Za.v (⟨⟨0,0,0,⟨0,0⟩,⟨0,0⟩,0,0,0,0,0,0⟩,0,⟨0,⟨0,0⟩,0,0,0⟩⟩:Za))] {} (Ym 1 (Bk b3 (Za.c Za.zero) 107) (fun _=>{}) (Zc 3 [] [(11,.i 4)] {} (Zb rfl (TC.ret (ZY (Zq ?_))))))))))
    exact TE.ret [1] (.tuple #[Za.v (⟨⟨0,0,0,⟨0,0⟩,⟨0,0⟩,0,0,0,0,0,0⟩,0,⟨0,⟨0,0⟩,0,0,0⟩⟩:Za),.i 4]) {} (by unfold Y0;refine eS (a:=((⟨⟨0,0,0,⟨0,0⟩,⟨0,0⟩,0,0,0,0,0,0⟩,0,⟨0,⟨0,0⟩,0,0,0⟩⟩:Za),4)) (fun (z:Za×Int)=>(.tuple #[Za.v z.1,.i z.2]:Value)) ?_;subst hr1 hr2 hr3;exact Zd h1 (Zd h2 (Zk h3 (rfl))))
   ·refine Zc 4 [] [(45,.i speed)] {} (TL.c 46 (Yw speed 0 256) (fun r4=>.b r4) (fun w _=>QG speed 0 256 w) {} (fun r4 hr4=>Zc 7 [] [(41,.b r4)] {} (Zb rfl (TC.cond r4 rfl Kr (fun h4=>?_) (fun h4=>?_)))))
    ·refine Ze (Zc 1 [0] [(48,Za.v (⟨⟨0,0,0,⟨0,0⟩,⟨0,0⟩,0,0,0,0,0,0⟩,0,⟨0,⟨0,0⟩,0,0,0⟩⟩:Za))] {} (Ym 1 (Bk b3 (Za.c Za.zero) 107) (fun _=>{}) (Zc 3 [] [(11,.i 4)] {} (Zb rfl (TC.ret (ZY (Zq ?_)))))))
     exact TE.ret [1] (.tuple #[Za.v (⟨⟨0,0,0,⟨0,0⟩,⟨0,0⟩,0,0,0,0,0,0⟩,0,⟨0,⟨0,0⟩,0,0,0⟩⟩:Za),.i 4]) {} (by unfold Y0;refine eS (a:=((⟨⟨0,0,0,⟨0,0⟩,⟨0,0⟩,0,0,0,0,0,0⟩,0,⟨0,⟨0,0⟩,0,0,0⟩⟩:Za),4)) (fun (z:Za×Int)=>(.tuple #[Za.v z.1,.i z.2]:Value)) ?_;subst hr1 hr2 hr3 hr4;exact Zd h1 (Zd h2 (Zd h3 (Zk h4 (rfl)))))
    ·refine Ze (Zc 3 [] [(49,.b (decide ((w64 (s.Time-f.Last.Time))≤0)))] {} (Zb rfl (TC.cond (decide ((w64 (s.Time-f.Last.Time))≤0)) rfl Kr (fun h5=>?_) (fun h5=>?_))))
     ·refine Ze (Zc 1 [0] [(52,Za.v (⟨⟨0,0,0,⟨0,0⟩,⟨0,0⟩,0,0,0,0,0,0⟩,0,⟨0,⟨0,0⟩,0,0,0⟩⟩:Za))] {} (Ym 1 (Bk b3 (Za.c Za.zero) 107) (fun _=>{}) (Zc 3 [] [(11,.i 12)] {} (Zb rfl (TC.ret (ZY (Zq ?_)))))))
      exact TE.ret [1] (.tuple #[Za.v (⟨⟨0,0,0,⟨0,0⟩,⟨0,0⟩,0,0,0,0,0,0⟩,0,⟨0,⟨0,0⟩,0,0,0⟩⟩:Za),.i 12]) {} (by unfold Y0;refine eS (a:=((⟨⟨0,0,0,⟨0,0⟩,⟨0,0⟩,0,0,0,0,0,0⟩,0,⟨0,⟨0,0⟩,0,0,0⟩⟩:Za),12)) (fun (z:Za×Int)=>(.tuple #[Za.v z.1,.i z.2]:Value)) ?_;subst hr1 hr2 hr3 hr4;exact Zd h1 (Zd h2 (Zd h3 (Zd h4 (Zk h5 (rfl))))))
     ·refine TC.skip (Yr (YZ (Zc 4 [3,2] [(54,Za.v f),(56,.i s.Time),(57,.i qo)] {} (TL.c 58 (Ye f s.Time qo) (fun r5=>.tuple #[Za.v r5.1,.i r5.2]) (fun w _=>UL f s.Time qo w) {} (fun r5 hr5=>Zc 8 [] [(59,Za.v r5.1),(60,.i r5.2)] {} (ZH 16 (fun b5=>.p0 b5) (fun b5=>Bk b5 (Za.c Za.zero) 107) (fun b5=>{}) (fun b5=>Ym 0 (Bk b5 (Za.c r5.1) 107) (fun _=>{}) (Zc 11 [] [(17,.i r5.2)] {} (Zz (Ze (Zc 2 [] [(62,.b (r5.2 != 0))] {} (Zb rfl (TC.cond (r5.2 != 0) rfl Kr (fun h6=>?_) (fun h6=>?_))))))))))))))
      ·exact Ze (Zc 2 [1] [(63,Za.v (⟨⟨0,0,0,⟨0,0⟩,⟨0,0⟩,0,0,0,0,0,0⟩,0,⟨0,⟨0,0⟩,0,0,0⟩⟩:Za)),(64,.i r5.2)] {} (Ym 2 (Bk b3 (Za.c Za.zero) 107) (fun _=>{}) (Zc 4 [] [(11,.i r5.2)] {} (Zb rfl (TC.ret (Zq (TE.ret [2] (.tuple #[Za.v (⟨⟨0,0,0,⟨0,0⟩,⟨0,0⟩,0,0,0,0,0,0⟩,0,⟨0,⟨0,0⟩,0,0,0⟩⟩:Za),.i r5.2]) {} (by unfold Y0;refine eS (a:=((⟨⟨0,0,0,⟨0,0⟩,⟨0,0⟩,0,0,0,0,0,0⟩,0,⟨0,⟨0,0⟩,0,0,0⟩⟩:Za),r5.2)) (fun (z:Za×Int)=>(.tuple #[Za.v z.1,.i z.2]:Value)) ?_;subst hr1 hr2 hr3 hr4 hr5;exact Zd h1 (Zd h2 (Zd h3 (Zd h4 (Zd h5 (Zk h6 (rfl))))))))))))))
      ·refine Yg (TC.seq (Ze (Zc 11 [0,3,0,3] [(67,P.v r5.1.Track.At),(69,P.v s.At),(75,.i (w64 (r5.1.Track.Radius+s.Error)))] {} (TL.c 76 (Y3 r5.1.Track.At s.At (w64 (r5.1.Track.Radius+s.Error))) (fun r6=>.b r6) (fun w _=>Kw r5.1.Track.At s.At (w64 (r5.1.Track.Radius+s.Error)) w) {} (fun r6 hr6=>Zc 13 [] [(77,.b (!r6))] {} (Zb rfl (TC.cond (!r6) rfl Kr (fun h7=>?_) (fun h7=>?_))))))))
       ·exact Ze (Zc 1 [1] [(78,Za.v (⟨⟨0,0,0,⟨0,0⟩,⟨0,0⟩,0,0,0,0,0,0⟩,0,⟨0,⟨0,0⟩,0,0,0⟩⟩:Za))] {} (Ym 2 (Bk b3 (Za.c Za.zero) 107) (fun _=>{}) (Zc 3 [] [(11,.i 8)] {} (Zb rfl (TC.ret (Zq (TE.ret [2] (.tuple #[Za.v (⟨⟨0,0,0,⟨0,0⟩,⟨0,0⟩,0,0,0,0,0,0⟩,0,⟨0,⟨0,0⟩,0,0,0⟩⟩:Za),.i 8]) {} (by unfold Y0;refine eS (a:=((⟨⟨0,0,0,⟨0,0⟩,⟨0,0⟩,0,0,0,0,0,0⟩,0,⟨0,⟨0,0⟩,0,0,0⟩⟩:Za),8)) (fun (z:Za×Int)=>(.tuple #[Za.v z.1,.i z.2]:Value)) ?_;subst hr1 hr2 hr3 hr4 hr5 hr6;exact Zd h1 (Zd h2 (Zd h3 (Zd h4 (Zd h5 (Zd h6 (Zk h7 (rfl)))))))))))))))
       ·refine ZI (Zc 1 [0] [(79,Za.v r5.1)] {} (ZH 18 (fun b6=>.p0 b6) (fun b6=>Bk b6 (Za.c Za.zero) 107) (fun b6=>{}) (fun b6=>Ym 0 (Bk b6 (Za.c r5.1) 107) (fun _=>{}) (Zv (Zc 2 [] [(19,.p0 b6)] {} (Zz (KW 22 Kr Kr (JA 9 [1,4] [(81,.p0 b6),(85,.i r5.1.Track.At.X),(88,.i s.At.X),(89,.i place)] {} (TQ.c 90 (J4 r5.1.Track.At.X s.At.X place) (fun r7=>.i r7) (fun w _=>VI r5.1.Track.At.X s.At.X place w) rfl {} (fun r7 hr7=>JA 18 [1,4] [(94,.i r5.1.Track.At.Y),(97,.i s.At.Y),(98,.i place)] {} (TQ.c 99 (J4 r5.1.Track.At.Y s.At.Y place) (fun r8=>.i r8) (fun w _=>VI r5.1.Track.At.Y s.At.Y place w) rfl {} (fun r8 hr8=>JA 22 [] [(100,P.v (⟨r7,r8⟩:P)),(102,.pt b6 3)] {} (TQ.tail rfl (Ym 0 (Bk b6 (Za.c (⟨⟨r5.1.Track.ID,r5.1.Track.State,r5.1.Track.Time,⟨r7,r8⟩,r5.1.Track.Speed,r5.1.Track.Height,r5.1.Track.Rate,r5.1.Track.Radius,r5.1.Track.Code,r5.1.Track.Hits,r5.1.Track.Misses⟩,r5.1.Slack,r5.1.Last⟩:Za)) 107) (fun _=>{}) (Zv (Zc 12 [1,4] [(103,.p0 b6),(114,.i (w64 ((w64 ((w64 (256-place))*r5.1.Track.Radius))+(w64 (place*s.Error)))))] {} (TL.c 115 (KU (w64 ((w64 ((w64 (256-place))*r5.1.Track.Radius))+(w64 (place*s.Error)))) 256) (fun r9=>.i r9) (fun w _=>G1 (w64 ((w64 ((w64 (256-place))*r5.1.Track.Radius))+(w64 (place*s.Error)))) 256 w) {} (fun r9 hr9=>Zc 16 [] [(116,.i (w64 (r9+2))),(118,.pt b6 9)] {} (Ym 0 (Bk b6 (Za.c (⟨⟨r5.1.Track.ID,r5.1.Track.State,r5.1.Track.Time,⟨r7,r8⟩,r5.1.Track.Speed,r5.1.Track.Height,r5.1.Track.Rate,w64 (r9+2),r5.1.Track.Code,r5.1.Track.Hits,r5.1.Track.Misses⟩,r5.1.Slack,r5.1.Last⟩:Za)) 107) (fun _=>{}) (Zz ?_))))))))))))))))))))
        obtain⟨r10,zl⟩:∃ r,Xh (w64 (16*(w64 (s.At.X-f.Last.At.X)))) (w64 (s.Time-f.Last.Time))=r:=⟨_,rfl⟩
        obtain⟨r11,zo⟩:∃ r,Xh (w64 (16*(w64 (s.At.Y-f.Last.At.Y)))) (w64 (s.Time-f.Last.Time))=r:=⟨_,rfl⟩
        let Mr22_:Mem:=[Bk b6 (Za.c (⟨⟨r5.1.Track.ID,r5.1.Track.State,r5.1.Track.Time,⟨r7,r8⟩,r5.1.Track.Speed,r5.1.Track.Height,r5.1.Track.Rate,w64 (r9+2),r5.1.Track.Code,r5.1.Track.Hits,r5.1.Track.Misses⟩,r5.1.Slack,r5.1.Last⟩:Za)) 107,Bk b5 (Za.c r5.1) 107,Bk b4 (Za.c Za.zero) 107,Bk b3 (Za.c Za.zero) 107,Bk b2 (Zm.c s) 46,Bk b1 (Za.c f) 107]
        refine Jt (G:=Nat) (base:=[(2,.i qo),(4,.i speed),(5,.p0 b1),(6,.p0 b2),(10,.p0 b3),(12,.p0 b4),(15,.i (w64 (s.Time-f.Last.Time))),(16,.p0 b5),(18,.p0 b6),(19,.p0 b6)]) (vals:=fun γ=>[.pt b2 1,.pt b2 1,.i s.At.X,.pt b1 14,.pt b1 15,.pt b1 15,.i f.Last.At.X,.i (w64 (s.At.X-f.Last.At.X)),.i (w64 (16*(w64 (s.At.X-f.Last.At.X)))),.i (w64 (s.Time-f.Last.Time)),.i r10,.pt b2 1,.pt b2 2,.i s.At.Y,.pt b1 14,.pt b1 15,.pt b1 16,.i f.Last.At.Y,.i (w64 (s.At.Y-f.Last.At.Y)),.i (w64 (16*(w64 (s.At.Y-f.Last.At.Y)))),.i (w64 (s.Time-f.Last.Time)),.i r11,P.v (⟨r10,r11⟩:P),.p0 γ,undef]) (writes:=[23,24]) (mem:=fun bs γ=>match bs with | [x23_,x24_]=>(bif x24_ then [Bk γ (P.c (⟨r10,r11⟩:P)) 32] else bif x23_ then [Bk γ (P.c P.zero) 32] else [])++(Mr22_)|_=>[]) (0) (fun γ=>[(2,.i qo),(4,.i speed),(5,.p0 b1),(6,.p0 b2),(10,.p0 b3),(12,.p0 b4),(15,.i (w64 (s.Time-f.Last.Time))),(16,.p0 b5),(18,.p0 b6),(19,.p0 b6),(20,.p0 γ)]) Kr Kr Kr Kr Kr (fun γ=>Kr) (fun _ hM=>hM) (fun γ=>Kr) ?_ ?_
        ·skip
         exact Steps.run (i:=0) 10 [0,0,4,0,0,0,5,0,0,0] Mr22_ Kr Kr (fun S (γ:Nat) w hM=>by rw[mS2 rfl rfl] at hM;exact hM.sub (Zh (aA _))) Kr (fun (γ:Nat)=>{}) (Steps.call (i:=10) 82 (fun (γ:Nat)=>#[.i (w64 (16*(w64 (s.At.X-f.Last.At.X)))),.i (w64 (s.Time-f.Last.Time))]) (some 129) (fun (γ:Nat)=>.i r10) (fun (γ:Nat)=>[Bk b6 (Za.c (⟨⟨r5.1.Track.ID,r5.1.Track.State,r5.1.Track.Time,⟨r7,r8⟩,r5.1.Track.Speed,r5.1.Track.Height,r5.1.Track.Rate,w64 (r9+2),r5.1.Track.Code,r5.1.Track.Hits,r5.1.Track.Misses⟩,r5.1.Slack,r5.1.Last⟩:Za)) 107,Bk b5 (Za.c r5.1) 107,Bk b4 (Za.c Za.zero) 107,Bk b3 (Za.c Za.zero) 107,Bk b2 (Zm.c s) 46,Bk b1 (Za.c f) 107]) Kr (fun S (γ:Nat) w _ hM=>by rw[mS2 rfl rfl] at hM;exact hM.sub (Zh (aA _))) (fun (γ:Nat) w _=>by have h:=J3 (w64 (16*(w64 (s.At.X-f.Last.At.X)))) (w64 (s.Time-f.Last.Time)) w;rw[zl] at h;exact h) (fun (γ:Nat)=>Kr) (fun (γ:Nat)=>Kr) (Steps.run (i:=11) 21 [0,0,4,0,0,0,5,0,0,0] Mr22_ Kr Kr (fun S (γ:Nat) w hM=>by rw[mS2 rfl rfl] at hM;exact hM.sub (Zh (aA _))) Kr (fun (γ:Nat)=>{}) (Steps.call (i:=21) 82 (fun (γ:Nat)=>#[.i (w64 (16*(w64 (s.At.Y-f.Last.At.Y)))),.i (w64 (s.Time-f.Last.Time))]) (some 140) (fun (γ:Nat)=>.i r11) (fun (γ:Nat)=>[Bk b6 (Za.c (⟨⟨r5.1.Track.ID,r5.1.Track.State,r5.1.Track.Time,⟨r7,r8⟩,r5.1.Track.Speed,r5.1.Track.Height,r5.1.Track.Rate,w64 (r9+2),r5.1.Track.Code,r5.1.Track.Hits,r5.1.Track.Misses⟩,r5.1.Slack,r5.1.Last⟩:Za)) 107,Bk b5 (Za.c r5.1) 107,Bk b4 (Za.c Za.zero) 107,Bk b3 (Za.c Za.zero) 107,Bk b2 (Zm.c s) 46,Bk b1 (Za.c f) 107]) Kr (fun S (γ:Nat) w _ hM=>by rw[mS2 rfl rfl] at hM;exact hM.sub (Zh (aA _))) (fun (γ:Nat) w _=>by have h:=J3 (w64 (16*(w64 (s.At.Y-f.Last.At.Y)))) (w64 (s.Time-f.Last.Time)) w;rw[zo] at h;exact h) (fun (γ:Nat)=>Kr) (fun (γ:Nat)=>Kr) (Steps.run (i:=22) 23 [0] Mr22_ Kr Kr (fun S (γ:Nat) w hM=>by rw[mS2 rfl rfl] at hM;exact hM.sub (Zh (aA _))) Kr (fun (γ:Nat)=>{}) (Steps.op (i:=23) (Γ:=Nat) (fun g (γ:Nat)=>g) (fun _=>[]) (fun b (γ:Nat)=>[Bk b (P.c P.zero) 32]) (fun S (γ:Nat)=>Mr22_) [23,24] (fun (γ:Nat)=>sV (Instr.alloc 32 true (.tuple #[]))) (some 20) (fun b (γ:Nat)=>.p0 b) (fun S (γ:Nat) hj hd hl=>by rw[mS2 hj (hl 24 Kr)];exact aC _) (fun S (γ:Nat) g hl=>by rw[mS2 (S:=upS S 23) (a0:=23) (a1:=24) rfl (hl 24 Kr)];exact(aC _).symm) (fun (γ:Nat) M' w hM=>Jd (v:=fun b=>.p0 b) (fun b M=>Kr) M' w hM) (fun (γ:Nat)=>Kr) (fun (γ:Nat) g=>Kr) Kr (fun (γ:Nat) g=>Kr) (Steps.put (i:=24) (fun (γ:Nat)=>[Bk γ (P.c P.zero) 32]) (fun (γ:Nat)=>[Bk γ (P.c (⟨r10,r11⟩:P)) 32]) (fun S (γ:Nat)=>Mr22_) (fun (γ:Nat)=>sU (Instr.storeAt 32 (.p0 γ) (P.v (⟨r10,r11⟩:P)))) none (fun S (γ:Nat) hj hd hl=>by rw[mS2 (hd 23 Kr) hj];exact aC _) (fun S (γ:Nat) _=>(aC _).symm) (fun (γ:Nat) M' w hM=>JJ (fun b M=>Kr) (fun b M=>Kr) M' w hM) (fun (γ:Nat)=>Kr) (fun (γ:Nat)=>Kr) (XH Kr)))))))
        ·rintro b7
         refine Yp [Bk b7 (P.c (⟨r10,r11⟩:P)) 32,Bk b6 (Za.c (⟨⟨r5.1.Track.ID,r5.1.Track.State,r5.1.Track.Time,⟨r7,r8⟩,r5.1.Track.Speed,r5.1.Track.Height,r5.1.Track.Rate,w64 (r9+2),r5.1.Track.Code,r5.1.Track.Hits,r5.1.Track.Misses⟩,r5.1.Slack,r5.1.Last⟩:Za)) 107,Bk b5 (Za.c r5.1) 107,Bk b4 (Za.c Za.zero) 107,Bk b3 (Za.c Za.zero) 107,Bk b2 (Zm.c s) 46,Bk b1 (Za.c f) 107] (fun _ hM=>hM) (Z4 (TC.seq (KW 20 Kr Kr (JA 8 [2,0] [(142,.p0 b6),(146,.i r5.1.Track.Speed.X),(148,.i r10),(149,.i speed)] {} (TQ.c 150 (J4 r5.1.Track.Speed.X r10 speed) (fun r12=>.i r12) (fun w _=>VI r5.1.Track.Speed.X r10 speed w) rfl {} (fun r12 z8=>JA 16 [2,0] [(154,.i r5.1.Track.Speed.Y),(156,.i r11),(157,.i speed)] {} (TQ.c 158 (J4 r5.1.Track.Speed.Y r11 speed) (fun r13=>.i r13) (fun w _=>VI r5.1.Track.Speed.Y r11 speed w) rfl {} (fun r13 xa=>JA 20 [] [(159,P.v (⟨r12,r13⟩:P)),(161,.pt b6 5)] {} (TQ.tail rfl (Ym 1 (Bk b6 (Za.c (⟨⟨r5.1.Track.ID,r5.1.Track.State,r5.1.Track.Time,⟨r7,r8⟩,⟨r12,r13⟩,r5.1.Track.Height,r5.1.Track.Rate,w64 (r9+2),r5.1.Track.Code,r5.1.Track.Hits,r5.1.Track.Misses⟩,r5.1.Slack,r5.1.Last⟩:Za)) 107) (fun _=>{}) (Zv (Zc 8 [5,6] [(168,.i (w64 (16*(w64 (s.Error+f.Last.Error))))),(169,.i (w64 (s.Time-f.Last.Time)))] {} (TL.c 170 (KU (w64 (16*(w64 (s.Error+f.Last.Error)))) (w64 (s.Time-f.Last.Time))) (fun r14=>.i r14) (fun w _=>G1 (w64 (16*(w64 (s.Error+f.Last.Error)))) (w64 (s.Time-f.Last.Time)) w) {} (fun r14 kv=>Zc 16 [] [(21,.i (w64 ((w64 (r14+(w64 ((w64 (16*qo))*(w64 (s.Time-f.Last.Time))))))+2)))] {} (Zv (Zc 9 [2] [(185,.i (w64 ((w64 ((w64 (256-speed))*r5.1.Slack))+(w64 (speed*(w64 ((w64 (r14+(w64 ((w64 (16*qo))*(w64 (s.Time-f.Last.Time))))))+2)))))))] {} (TL.c 186 (KU (w64 ((w64 ((w64 (256-speed))*r5.1.Slack))+(w64 (speed*(w64 ((w64 (r14+(w64 ((w64 (16*qo))*(w64 (s.Time-f.Last.Time))))))+2)))))) 256) (fun r15=>.i r15) (fun w _=>G1 (w64 ((w64 ((w64 (256-speed))*r5.1.Slack))+(w64 (speed*(w64 ((w64 (r14+(w64 ((w64 (16*qo))*(w64 (s.Time-f.Last.Time))))))+2)))))) 256 w) {} (fun r15 gq=>Zc 12 [] [(187,.i (w64 (r15+2))),(188,.pt b6 13)] {} (Ym 1 (Bk b6 (Za.c (⟨⟨r5.1.Track.ID,r5.1.Track.State,r5.1.Track.Time,⟨r7,r8⟩,⟨r12,r13⟩,r5.1.Track.Height,r5.1.Track.Rate,w64 (r9+2),r5.1.Track.Code,r5.1.Track.Hits,r5.1.Track.Misses⟩,w64 (r15+2),r5.1.Last⟩:Za)) 107) (fun _=>{}) (Zv (Zc 9 [5,6] [(189,.p0 b6),(196,.i (w64 (16*(w64 (s.Height-f.Last.Height))))),(197,.i (w64 (s.Time-f.Last.Time)))] {} (TL.c 198 (Xh (w64 (16*(w64 (s.Height-f.Last.Height)))) (w64 (s.Time-f.Last.Time))) (fun r16=>.i r16) (fun w _=>J3 (w64 (16*(w64 (s.Height-f.Last.Height)))) (w64 (s.Time-f.Last.Time)) w) {} (fun r16 df=>TL.c 199 (Jx r16 (-3200) 3200) (fun r17=>.i r17) (fun w _=>Wp r16 (-3200) 3200 w) {} (fun r17 dh=>Zc 13 [] [(201,.pt b6 8)] {} (Ym 1 (Bk b6 (Za.c (⟨⟨r5.1.Track.ID,r5.1.Track.State,r5.1.Track.Time,⟨r7,r8⟩,⟨r12,r13⟩,r5.1.Track.Height,r17,w64 (r9+2),r5.1.Track.Code,r5.1.Track.Hits,r5.1.Track.Misses⟩,w64 (r15+2),r5.1.Last⟩:Za)) 107) (fun _=>{}) (Zv (Zc 5 [5] [(204,.i s.Height),(206,.pt b6 7)] {} (Ym 1 (Bk b6 (Za.c (⟨⟨r5.1.Track.ID,r5.1.Track.State,r5.1.Track.Time,⟨r7,r8⟩,⟨r12,r13⟩,s.Height,r17,w64 (r9+2),r5.1.Track.Code,r5.1.Track.Hits,r5.1.Track.Misses⟩,w64 (r15+2),r5.1.Last⟩:Za)) 107) (fun _=>{}) (Zz (Ze (Zc 3 [5] [(209,.b (s.Code != (-1)))] {} (Zb rfl (TC.cond (s.Code != (-1)) rfl Kr (fun h8=>?_) (fun h8=>?_))))))))))))))))))))))))))))))))))
         ·refine TC.region (Zc 5 [5] [(212,.i s.Code),(214,.pt b6 10)] {} (Ym 1 (Bk b6 (Za.c (⟨⟨r5.1.Track.ID,r5.1.Track.State,r5.1.Track.Time,⟨r7,r8⟩,⟨r12,r13⟩,s.Height,r17,w64 (r9+2),s.Code,r5.1.Track.Hits,r5.1.Track.Misses⟩,w64 (r15+2),r5.1.Last⟩:Za)) 107) (fun _=>{}) (Zv (Zc 7 [1] [(219,.i (w64 (r5.1.Track.Hits+1))),(221,.pt b6 11)] {} (Ym 1 (Bk b6 (Za.c (⟨⟨r5.1.Track.ID,r5.1.Track.State,r5.1.Track.Time,⟨r7,r8⟩,⟨r12,r13⟩,s.Height,r17,w64 (r9+2),s.Code,w64 (r5.1.Track.Hits+1),r5.1.Track.Misses⟩,w64 (r15+2),r5.1.Last⟩:Za)) 107) (fun _=>{}) (Zv (Zc 3 [] [(224,.pt b6 12)] {} (Ym 1 (Bk b6 (Za.c (⟨⟨r5.1.Track.ID,r5.1.Track.State,r5.1.Track.Time,⟨r7,r8⟩,⟨r12,r13⟩,s.Height,r17,w64 (r9+2),s.Code,w64 (r5.1.Track.Hits+1),0⟩,w64 (r15+2),r5.1.Last⟩:Za)) 107) (fun _=>{}) (Zv (Zc 2 [5] [(225,Zm.v s),(226,.pt b6 14)] {} (Ym 1 (Bk b6 (Za.c (⟨⟨r5.1.Track.ID,r5.1.Track.State,r5.1.Track.Time,⟨r7,r8⟩,⟨r12,r13⟩,s.Height,r17,w64 (r9+2),s.Code,w64 (r5.1.Track.Hits+1),0⟩,w64 (r15+2),s⟩:Za)) 107) (fun _=>{}) (Zz (Ze (Zc 1 [1] [(227,Za.v (⟨⟨r5.1.Track.ID,r5.1.Track.State,r5.1.Track.Time,⟨r7,r8⟩,⟨r12,r13⟩,s.Height,r17,w64 (r9+2),s.Code,w64 (r5.1.Track.Hits+1),0⟩,w64 (r15+2),s⟩:Za))] {} (TL.c 228 (ZL (⟨⟨r5.1.Track.ID,r5.1.Track.State,r5.1.Track.Time,⟨r7,r8⟩,⟨r12,r13⟩,s.Height,r17,w64 (r9+2),s.Code,w64 (r5.1.Track.Hits+1),0⟩,w64 (r15+2),s⟩:Za)) (fun r18=>.i r18) (fun w _=>QK (⟨⟨r5.1.Track.ID,r5.1.Track.State,r5.1.Track.Time,⟨r7,r8⟩,⟨r12,r13⟩,s.Height,r17,w64 (r9+2),s.Code,w64 (r5.1.Track.Hits+1),0⟩,w64 (r15+2),s⟩:Za) w) {} (fun r18 lp=>Zc 3 [] [(229,.b (r18 != 0))] {} (Zb rfl (TC.cond (r18 != 0) rfl Kr (fun h9=>?_) (fun h9=>?_)))))))))))))))))))
          ·exact Ze (Zc 1 [3] [(230,Za.v (⟨⟨0,0,0,⟨0,0⟩,⟨0,0⟩,0,0,0,0,0,0⟩,0,⟨0,⟨0,0⟩,0,0,0⟩⟩:Za))] {} (Ym 4 (Bk b3 (Za.c Za.zero) 107) (fun _=>{}) (Zc 3 [] [(11,.i 8)] {} (Zb rfl (TC.ret (Zq (TE.ret [4] (.tuple #[Za.v (⟨⟨0,0,0,⟨0,0⟩,⟨0,0⟩,0,0,0,0,0,0⟩,0,⟨0,⟨0,0⟩,0,0,0⟩⟩:Za),.i 8]) {} (by unfold Y0;refine eS (a:=((⟨⟨0,0,0,⟨0,0⟩,⟨0,0⟩,0,0,0,0,0,0⟩,0,⟨0,⟨0,0⟩,0,0,0⟩⟩:Za),8)) (fun (z:Za×Int)=>(.tuple #[Za.v z.1,.i z.2]:Value)) ?_;subst hr1 hr2 hr3 hr4 hr5 hr6 hr7 hr8 hr9 zl zo z8 xa kv gq df dh lp;exact Zd h1 (Zd h2 (Zd h3 (Zd h4 (Zd h5 (Zd h6 (Zd h7 (Zk h8 (Zk h9 (rfl)))))))))))))))))
          ·exact ZI (Zc 1 [1] [(231,Za.v (⟨⟨r5.1.Track.ID,r5.1.Track.State,r5.1.Track.Time,⟨r7,r8⟩,⟨r12,r13⟩,s.Height,r17,w64 (r9+2),s.Code,w64 (r5.1.Track.Hits+1),0⟩,w64 (r15+2),s⟩:Za))] {} (Ym 4 (Bk b3 (Za.c (⟨⟨r5.1.Track.ID,r5.1.Track.State,r5.1.Track.Time,⟨r7,r8⟩,⟨r12,r13⟩,s.Height,r17,w64 (r9+2),s.Code,w64 (r5.1.Track.Hits+1),0⟩,w64 (r15+2),s⟩:Za)) 107) (fun _=>{}) (Zc 3 [] [(11,.i 0)] {} (Zb rfl (TC.ret (TE.ret [4] (.tuple #[Za.v (⟨⟨r5.1.Track.ID,r5.1.Track.State,r5.1.Track.Time,⟨r7,r8⟩,⟨r12,r13⟩,s.Height,r17,w64 (r9+2),s.Code,w64 (r5.1.Track.Hits+1),0⟩,w64 (r15+2),s⟩:Za),.i 0]) {} (by unfold Y0;refine eS (a:=((⟨⟨r5.1.Track.ID,r5.1.Track.State,r5.1.Track.Time,⟨r7,r8⟩,⟨r12,r13⟩,s.Height,r17,w64 (r9+2),s.Code,w64 (r5.1.Track.Hits+1),0⟩,w64 (r15+2),s⟩:Za),0)) (fun (z:Za×Int)=>(.tuple #[Za.v z.1,.i z.2]:Value)) ?_;subst hr1 hr2 hr3 hr4 hr5 hr6 hr7 hr8 hr9 zl zo z8 xa kv gq df dh lp;exact Zd h1 (Zd h2 (Zd h3 (Zd h4 (Zd h5 (Zd h6 (Zd h7 (Zk h8 (Zd h9 (rfl))))))))))))))))
         ·refine ZI (Zc 7 [1] [(219,.i (w64 (r5.1.Track.Hits+1))),(221,.pt b6 11)] {} (Ym 1 (Bk b6 (Za.c (⟨⟨r5.1.Track.ID,r5.1.Track.State,r5.1.Track.Time,⟨r7,r8⟩,⟨r12,r13⟩,s.Height,r17,w64 (r9+2),r5.1.Track.Code,w64 (r5.1.Track.Hits+1),r5.1.Track.Misses⟩,w64 (r15+2),r5.1.Last⟩:Za)) 107) (fun _=>{}) (Zv (Zc 3 [] [(224,.pt b6 12)] {} (Ym 1 (Bk b6 (Za.c (⟨⟨r5.1.Track.ID,r5.1.Track.State,r5.1.Track.Time,⟨r7,r8⟩,⟨r12,r13⟩,s.Height,r17,w64 (r9+2),r5.1.Track.Code,w64 (r5.1.Track.Hits+1),0⟩,w64 (r15+2),r5.1.Last⟩:Za)) 107) (fun _=>{}) (Zv (Zc 2 [5] [(225,Zm.v s),(226,.pt b6 14)] {} (Ym 1 (Bk b6 (Za.c (⟨⟨r5.1.Track.ID,r5.1.Track.State,r5.1.Track.Time,⟨r7,r8⟩,⟨r12,r13⟩,s.Height,r17,w64 (r9+2),r5.1.Track.Code,w64 (r5.1.Track.Hits+1),0⟩,w64 (r15+2),s⟩:Za)) 107) (fun _=>{}) (Zz (Ze (Zc 1 [1] [(227,Za.v (⟨⟨r5.1.Track.ID,r5.1.Track.State,r5.1.Track.Time,⟨r7,r8⟩,⟨r12,r13⟩,s.Height,r17,w64 (r9+2),r5.1.Track.Code,w64 (r5.1.Track.Hits+1),0⟩,w64 (r15+2),s⟩:Za))] {} (TL.c 228 (ZL (⟨⟨r5.1.Track.ID,r5.1.Track.State,r5.1.Track.Time,⟨r7,r8⟩,⟨r12,r13⟩,s.Height,r17,w64 (r9+2),r5.1.Track.Code,w64 (r5.1.Track.Hits+1),0⟩,w64 (r15+2),s⟩:Za)) (fun r19=>.i r19) (fun w _=>QK (⟨⟨r5.1.Track.ID,r5.1.Track.State,r5.1.Track.Time,⟨r7,r8⟩,⟨r12,r13⟩,s.Height,r17,w64 (r9+2),r5.1.Track.Code,w64 (r5.1.Track.Hits+1),0⟩,w64 (r15+2),s⟩:Za) w) {} (fun r19 lq=>Zc 3 [] [(229,.b (r19 != 0))] {} (Zb rfl (TC.cond (r19 != 0) rfl Kr (fun h10=>?_) (fun h10=>?_))))))))))))))))
          ·exact Ze (Zc 1 [3] [(230,Za.v (⟨⟨0,0,0,⟨0,0⟩,⟨0,0⟩,0,0,0,0,0,0⟩,0,⟨0,⟨0,0⟩,0,0,0⟩⟩:Za))] {} (Ym 4 (Bk b3 (Za.c Za.zero) 107) (fun _=>{}) (Zc 3 [] [(11,.i 8)] {} (Zb rfl (TC.ret (Zq (TE.ret [4] (.tuple #[Za.v (⟨⟨0,0,0,⟨0,0⟩,⟨0,0⟩,0,0,0,0,0,0⟩,0,⟨0,⟨0,0⟩,0,0,0⟩⟩:Za),.i 8]) {} (by unfold Y0;refine eS (a:=((⟨⟨0,0,0,⟨0,0⟩,⟨0,0⟩,0,0,0,0,0,0⟩,0,⟨0,⟨0,0⟩,0,0,0⟩⟩:Za),8)) (fun (z:Za×Int)=>(.tuple #[Za.v z.1,.i z.2]:Value)) ?_;subst hr1 hr2 hr3 hr4 hr5 hr6 hr7 hr8 hr9 zl zo z8 xa kv gq df dh lq;exact Zd h1 (Zd h2 (Zd h3 (Zd h4 (Zd h5 (Zd h6 (Zd h7 (Zd h8 (Zk h10 (rfl)))))))))))))))))
          ·exact ZI (Zc 1 [1] [(231,Za.v (⟨⟨r5.1.Track.ID,r5.1.Track.State,r5.1.Track.Time,⟨r7,r8⟩,⟨r12,r13⟩,s.Height,r17,w64 (r9+2),r5.1.Track.Code,w64 (r5.1.Track.Hits+1),0⟩,w64 (r15+2),s⟩:Za))] {} (Ym 4 (Bk b3 (Za.c (⟨⟨r5.1.Track.ID,r5.1.Track.State,r5.1.Track.Time,⟨r7,r8⟩,⟨r12,r13⟩,s.Height,r17,w64 (r9+2),r5.1.Track.Code,w64 (r5.1.Track.Hits+1),0⟩,w64 (r15+2),s⟩:Za)) 107) (fun _=>{}) (Zc 3 [] [(11,.i 0)] {} (Zb rfl (TC.ret (TE.ret [4] (.tuple #[Za.v (⟨⟨r5.1.Track.ID,r5.1.Track.State,r5.1.Track.Time,⟨r7,r8⟩,⟨r12,r13⟩,s.Height,r17,w64 (r9+2),r5.1.Track.Code,w64 (r5.1.Track.Hits+1),0⟩,w64 (r15+2),s⟩:Za),.i 0]) {} (by unfold Y0;refine eS (a:=((⟨⟨r5.1.Track.ID,r5.1.Track.State,r5.1.Track.Time,⟨r7,r8⟩,⟨r12,r13⟩,s.Height,r17,w64 (r9+2),r5.1.Track.Code,w64 (r5.1.Track.Hits+1),0⟩,w64 (r15+2),s⟩:Za),0)) (fun (z:Za×Int)=>(.tuple #[Za.v z.1,.i z.2]:Value)) ?_;subst hr1 hr2 hr3 hr4 hr5 hr6 hr7 hr8 hr9 zl zo z8 xa kv gq df dh lq;exact Zd h1 (Zd h2 (Zd h3 (Zd h4 (Zd h5 (Zd h6 (Zd h7 (Zd h8 (Zd h10 (rfl))))))))))))))))
end Go.Sky
end
section
namespace Go.Sky
open Go Go.Eng
theorem Re {a b:Int} (hb:0<b) (ha:-9223372036854775807≤a∧a≤9223372036854775807):Qd a b=(a/b,0):=by
 unfold Qd
 have e0:(b==0)=false:=by simp;omega
 have e1:(a==(-9223372036854775808))=false:=by simp;omega
 have e2:decide (b<0)=false:=by simp;omega
 simp only[e0,e1,e2,fW,cond_false]
 by_cases h:0≤a
 ·have e3:decide (a<0)=false:=by simp;omega
  have hw:w64 (a/b)=a/b:=Zu (by have:=Bq h hb;omega)
  simp[e3,WQ b h,hw]
 ·have e3:decide (a<0)=true:=by simp;omega
  have hq:=Bq (a:=-a) (b:=b) (by omega) hb
  have hm:a=b*(a/b)+a%b:=(fF a b).symm
  have hn:-a=b*(-a/b) + -a%b:=(fF (-a) b).symm
  have r1:=gK a (show b≠0 by omega)
  have r2:=fX a hb
  have r3:=gK (-a) (show b≠0 by omega)
  have r4:=fX (-a) hb
  rw[e3,SX b (by omega),SY b (by omega),Zu (x:=-(-a/b)) (by omega)]
  by_cases hz:-a%b=0
  ·have:a/b=-(-a/b):=by
    have h1:a=b*(-(-a/b)):=by rw[fO];omega
    have h2:a/b=-(-a/b):=by
     conv=>lhs;rw[h1]
     exact Int.mul_ediv_cancel_left _ (by omega)
    exact h2
   have e4:((-(-a%b)) != 0)=false:=by rw[hz];rfl
   rw[e4]
   simp only[fW,cond_false,this]
  ·have e4:((-(-a%b)) != 0)=true:=by simp;omega
   rw[e4]
   have e5:(true&&!(true==false))=true:=rfl
   rw[e5,cond_true]
   have:a/b=-(-a/b)-1:=by
    rw[Int.ediv_eq_iff_of_pos hb]
    rw[dX]
    constructor
    ·rw[gO,fO];omega
    ·rw[gO,fO];omega
   rw[Zu (by omega),this]
theorem MR {a b:Int} (hb:0<b) (ha:-9223372036854775807≤a∧a≤9223372036854775806):Qs a b=(-(-a/b),0):=by
 unfold Qs
 simp only[Re hb (show -9223372036854775807≤a∧a≤9223372036854775807 by omega),beq_self_eq_true,cond_true]
 have hm:a=b*(a/b)+a%b:=(fF a b).symm
 have r1:=gK a (show b≠0 by omega)
 have r2:=fX a hb
 have hz:a.tmod b=0↔a%b=0:=by
  rw[← Int.dvd_iff_tmod_eq_zero,← Int.dvd_iff_emod_eq_zero]
 have hle:a/b≤9223372036854775806 ∧ -9223372036854775807≤a/b:=by
  by_cases h:0≤a
  ·have:=Bq h hb;omega
  ·have h1:a≤a/b:=by
    rw[Int.le_ediv_iff_mul_le hb]
    have:a*b≤a*1:=Int.mul_le_mul_of_nonpos_left (by omega) (by omega)
    omega
   have h2:a/b<0:=Int.ediv_neg_of_neg_of_pos (by omega) hb
   omega
 by_cases h:a%b=0
 ·have e:(a.tmod b != 0)=false:=by simpa using hz.2 h
  rw[e,cond_false]
  congr 1
  have h1:-a=b*(-(a/b)):=by rw[fO];omega
  have h2:-a/b=-(a/b):=by
   conv=>lhs;rw[h1]
   exact Int.mul_ediv_cancel_left _ (by omega)
  omega
 ·have e:(a.tmod b != 0)=true:=by simpa using fun hh=>h (hz.1 hh)
  rw[e,cond_true,Zu (by omega)]
  congr 1
  have h2:-a/b=-(a/b)-1:=by
   rw[Int.ediv_eq_iff_of_pos hb,dX]
   constructor
   ·rw[gO,fO];omega
   ·rw[gO,fO];omega
  omega
end Go.Sky
namespace Go.Sky
open Go Go.Eng Go.Glue
def P.In (p:P):Prop:=-1000000≤p.X∧p.X≤1000000 ∧ -1000000≤p.Y∧p.Y≤1000000
def Zm.In (s:Zm):Prop:=(0≤s.Time∧s.Time≤200000)∧s.At.In∧(0≤s.Height∧s.Height≤60000)∧(-1≤s.Code∧s.Code≤4095)∧(0≤s.Error∧s.Error≤1000000)
def Track.In (t:Track):Prop:=(0≤t.Time∧t.Time≤200000)∧t.At.In∧(0≤t.Height∧t.Height≤60000)∧(-1≤t.Code∧t.Code≤4095)∧(0≤t.Radius∧t.Radius≤4000000)
theorem Tz {n a b:Int}:ZZ n a b=decide (¬ (a≤n∧n≤b)):=by
 unfold ZZ;rw[bK];simp
theorem T0 (p:P):Xg p=0∧p.In∨Xg p=4∧¬ p.In:=by
 unfold Xg P.In
 rw[Q8]
 split
 ·rename_i h;simp at h;exact .inr ⟨rfl,by omega⟩
 ·rename_i h;simp at h;exact .inl ⟨rfl,by omega⟩
theorem VJ (s:Zm):ZD s=0∧s.In∨ZD s=4∧¬ s.In:=by
 unfold ZD Zm.In
 simp only[Q8,Tz,decide_eq_true_eq]
 split
 ·exact .inr ⟨rfl,fun h=>by omega⟩
 ·rcases T0 s.At with ⟨h1,h2⟩|⟨h1,h2⟩
  ·rw[h1,if_neg (by simp)]
   split
   ·exact .inr ⟨rfl,fun h=>by omega⟩
   ·split
    ·exact .inr ⟨rfl,fun h=>by omega⟩
    ·split
     ·exact .inr ⟨rfl,fun h=>by omega⟩
     ·exact .inl ⟨rfl,by omega,h2,by omega,by omega,by omega⟩
  ·rw[h1,if_pos (by simp)]
   exact .inr ⟨rfl,fun h=>h2 h.2.1⟩
theorem KD {s:Zm}:ZD s=0↔s.In:=by
 rcases VJ s with ⟨h1,h2⟩|⟨h1,h2⟩
 ·exact⟨fun _=>h2,fun _=>h1⟩
 ·exact⟨fun h=>by omega,fun h=>absurd h h2⟩
theorem Wq (t:Track):X8 t=0∧t.In∨X8 t=4∧¬ t.In:=by
 unfold X8 Track.In
 simp only[Q8]
 rcases VJ ⟨t.Time,t.At,t.Height,t.Code,0⟩ with ⟨h1,h2⟩|⟨h1,h2⟩
 ·rw[h1]
  obtain⟨g1,g2,g3,g4,_⟩:=h2
  split
  ·rename_i h;simp at h;exact .inr ⟨rfl,fun hh=>by omega⟩
  ·rename_i h;simp at h;exact .inl ⟨rfl,g1,g2,g3,g4,by omega⟩
 ·rw[h1,if_pos (by simp)]
  exact .inr ⟨rfl,fun hh=>h2 ⟨hh.1,hh.2.1,hh.2.2.1,hh.2.2.2.1,show (0:Int)≤0∧(0:Int)≤1000000 by decide⟩⟩
theorem G2 {x n:Int} (h:-n≤x∧x≤n):0≤x*x∧x*x≤n*n:=by
 constructor
 ·rcases fB 0 x with h0|h0
  ·exact aY h0 h0
  ·rw[← cN];exact aY (by omega) (by omega)
 ·by_cases hx:0≤x
  ·exact bX h.2 h.2 hx (by omega)
  ·have:(-x)*(-x)≤n*n:=bX (by omega) (by omega) (by omega) (by omega)
   rwa [cN] at this
theorem Fv {p q:P} (hp:p.In) (hq:q.In):Yy p q=(p.X-q.X)*(p.X-q.X)+(p.Y-q.Y)*(p.Y-q.Y)∧0≤Yy p q∧Yy p q≤8000000000000:=by
 obtain⟨p1,p2,p3,p4⟩:=hp
 obtain⟨q1,q2,q3,q4⟩:=hq
 have b1:=G2 (x:=p.X-q.X) (n:=2000000) (by omega)
 have b2:=G2 (x:=p.Y-q.Y) (n:=2000000) (by omega)
 have e:Yy p q=(p.X-q.X)*(p.X-q.X)+(p.Y-q.Y)*(p.Y-q.Y):=by
  show w64 (w64 (w64 (p.X-q.X)*w64 (p.X-q.X))+w64 (w64 (p.Y-q.Y)*w64 (p.Y-q.Y)))=_
  rw[Zu (x:=p.X-q.X) (by omega),Zu (x:=p.Y-q.Y) (by omega),Zu (x:=(p.X-q.X)*(p.X-q.X)) (by omega),Zu (x:=(p.Y-q.Y)*(p.Y-q.Y)) (by omega),Zu (by omega)]
 exact⟨e,by omega,by omega⟩
theorem Ph {a b c d R S:Int} (hR:0≤R) (hS:0≤S) (h1:a*a+b*b≤R*R) (h2:c*c+d*d≤S*S):(a+c)*(a+c)+(b+d)*(b+d)≤(R+S)*(R+S):=by
 have key:a*c+b*d≤R*S:=by
  rcases dI (R*S) (a*c+b*d) with h|h
  ·exfalso
   have hRS:0≤R*S:=aY hR hS
   have e1:(a*c+b*d)*(a*c+b*d)+(a*d-b*c)*(a*d-b*c)=(a*a+b*b)*(c*c+d*d):=by grind
   have e2:0≤(a*d-b*c)*(a*d-b*c):=by
    rcases fB 0 (a*d-b*c) with g|g
    ·exact aY g g
    ·rw[← cN];exact aY (by omega) (by omega)
   have n1:∀ x:Int,0≤x*x:=fun x=>by
    rcases fB 0 x with g|g
    ·exact aY g g
    ·rw[← cN];exact aY (by omega) (by omega)
   have e3:(a*a+b*b)*(c*c+d*d)≤(R*R)*(S*S):=bX h1 h2 (by have:=n1 c;have:=n1 d;omega) (n1 R)
   have e4:(R*R)*(S*S)=(R*S)*(R*S):=by grind
   have e5:(R*S+1)*(R*S+1)≤(a*c+b*d)*(a*c+b*d):=bX (by omega) (by omega) (by omega) (by omega)
   have e6:(R*S+1)*(R*S+1)=(R*S)*(R*S)+2*(R*S)+1:=by grind
   omega
  ·exact h
 have e7:(a+c)*(a+c)+(b+d)*(b+d)=(a*a+b*b)+(c*c+d*d)+2*(a*c+b*d):=by grind
 have e8:(R+S)*(R+S)=R*R+S*S+2*(R*S):=by grind
 omega
theorem within_iff {p q:P} {d:Int} (hp:p.In) (hq:q.In) (hd:-9000000≤d∧d≤9000000):Y3 p q d=decide ((0≤d∧d≤8000000)∧(p.X-q.X)*(p.X-q.X)+(p.Y-q.Y)*(p.Y-q.Y)≤d*d):=by
 have hs:=G2 hd
 unfold Y3
 simp only[(Fv hp hq).1,Zu (x:=d*d) (by omega)]
 by_cases h:0≤d∧d≤8000000
 ·have e:((decide (d≥0))&&(decide (d≤8000000)))=true:=by simp;omega
  rw[e,cond_true,bK];simp only[decide_eq_true_eq]
  exact⟨fun g=>⟨h,g⟩,fun g=>g.2⟩
 ·have e:((decide (d≥0))&&(decide (d≤8000000)))=false:=by simp;omega
  rw[e,cond_false]
  exact(decide_eq_false (fun g=>h g.1)).symm
end Go.Sky
namespace Go.Sky
open Go Go.Eng Go.Glue
def Za.In (f:Za):Prop :=
 f.Track.In∧(-12800≤f.Track.Speed.X∧f.Track.Speed.X≤12800)∧(-12800≤f.Track.Speed.Y∧f.Track.Speed.Y≤12800)∧(-3200≤f.Track.Rate∧f.Track.Rate≤3200)∧(0≤f.Slack∧f.Slack≤409600)
  ∧ (0≤f.Track.ID∧0≤f.Track.Hits∧0≤f.Track.Misses)∧(0≤f.Track.State∧f.Track.State≤2)∧f.Last.In∧f.Last.Time≤f.Track.Time
theorem BM {n a b:Int}:Yw n a b=decide (¬ (a≤n∧n≤b)):=by
 unfold Yw;rw[bK];simp
theorem Pi (f:Za):ZL f=0∧f.In∨(ZL f=1∨ZL f=4∨ZL f=12)∧¬ f.In:=by
 unfold ZL Za.In
 simp only[Q8,BM,decide_eq_true_eq]
 rcases Wq f.Track with ⟨h1,h2⟩|⟨h1,h2⟩
 ·rw[h1,if_neg (by simp)]
  split
  ·exact .inr ⟨by simp,fun h=>by omega⟩
  ·split
   ·exact .inr ⟨by simp,fun h=>by omega⟩
   ·split
    ·exact .inr ⟨by simp,fun h=>by omega⟩
    ·split
     ·rename_i h;simp at h;exact .inr ⟨by simp,fun h=>by omega⟩
     ·rename_i h7;simp at h7
      split
      ·exact .inr ⟨by simp,fun h=>by omega⟩
      ·rcases VJ f.Last with ⟨h3,h4⟩|⟨h3,h4⟩
       ·rw[h3,if_neg (by simp)]
        split
        ·exact .inr ⟨by simp,fun h=>by omega⟩
        ·exact .inl ⟨rfl,h2,by omega,by omega,by omega,by omega,by omega,by omega,h4,by omega⟩
       ·rw[h3,if_pos (by simp)]
        exact .inr ⟨by simp,fun h=>h4 h.2.2.2.2.2.2.2.1⟩
 ·rw[h1,if_pos (by simp)]
  exact .inr ⟨by simp,fun h=>h2 h.1⟩
theorem Vq {f:Za}:ZL f=0↔f.In:=by
 rcases Pi f with ⟨h1,h2⟩|⟨h1,h2⟩
 ·exact⟨fun _=>h2,fun _=>h1⟩
 ·exact⟨fun h=>by omega,fun h=>absurd h h2⟩
theorem Rf {f:Za} {t a:Int} (h:(Ye f t a).2=0):(Ye f t a).1.In:=by
 unfold Ye at h ⊢
 simp only[Q8] at h ⊢
 by_cases h1:(ZL f != 0)=true
 ·rw[if_pos h1] at h;simp at h h1;exact absurd h h1
 ·rw[if_neg h1] at h ⊢
  have hc:f.In:=Vq.1 (by simpa using h1)
  by_cases h2:Yw t 0 200000=true
  ·rw[if_pos h2] at h;cases h
  ·rw[if_neg h2] at h ⊢
   by_cases h3:Yw a 0 20=true
   ·rw[if_pos h3] at h;cases h
   ·rw[if_neg h3] at h ⊢
    by_cases h4:Yw (w64 (t-f.Track.Time)) 0 600=true
    ·rw[if_pos h4] at h;cases h
    ·rw[if_neg h4] at h ⊢
     by_cases h5:(w64 (t-f.Track.Time)==0)=true
     ·rw[if_pos h5];exact hc
     ·rw[if_neg h5] at h ⊢
      generalize hg:(⟨⟨f.Track.ID,f.Track.State,t,JE f.Track.At ⟨Xh (w64 (f.Track.Speed.X*w64 (t-f.Track.Time))) 16,Xh (w64 (f.Track.Speed.Y*w64 (t-f.Track.Time))) 16⟩,f.Track.Speed,Jx (w64 (f.Track.Height+Xh (w64 (f.Track.Rate*w64 (t-f.Track.Time))) 16)) 0 60000,f.Track.Rate,w64 (f.Track.Radius+(JL f.Slack a (w64 (t-f.Track.Time))).1),f.Track.Code,f.Track.Hits,f.Track.Misses⟩,w64 (f.Slack+w64 (w64 (16*a)*w64 (t-f.Track.Time))),f.Last⟩:Za)=g at h ⊢
      by_cases h6:(ZL g != 0)=true
      ·rw[if_pos h6] at h;cases h
      ·rw[if_neg h6];exact Vq.1 (by simpa using h6)
end Go.Sky
end
section
namespace Go.Eng
open Go.RowKit (Below)
def ic8 (x:Int):Array Value:=#[.int .u8 x]
theorem Eb (x:Int):(ic8 x).toList.all Value.oneCell'=true:=rfl
def seq (x y:ByteArray):Bool:=x.toList==y.toList
def strOf (l:List Int):ByteArray:=l.foldl (fun r n=>r.push (UInt8.ofNat n.toNat)) ByteArray.empty
theorem F2:∀ (l:List Int) (b:ByteArray),(l.foldl (fun r n=>r.push (UInt8.ofNat n.toNat)) b).data.toList=b.data.toList++l.map (fun n=>UInt8.ofNat n.toNat)
 | [],b=>by simp
 | x::l,b=>by
  rw[List.foldl_cons,F2 l]
  simp[ByteArray.push]
theorem BN (l:List Int):(strOf l).data.toList=l.map (fun n=>UInt8.ofNat n.toNat):=by
 unfold strOf;rw[F2];rfl
theorem ZS (l:List Int):(strOf l).size=l.length:=by
 have:=congrArg List.length (BN l)
 rw[aF,aX] at this
 exact this
theorem XO {P:Program} {w:World} {t:TypeId} {s:ByteArray} {lo hi:Option Value} (l h:Nat) (ht:P.underlying t=some .string)
  (hlo:lo=none∧l=0∨∃ k i,lo=some (.int k i)∧0≤i∧i.toNat=l) (hhi:hi=none∧h=s.size∨∃ k i,hi=some (.int k i)∧0≤i∧i.toNat=h) (h1:l≤h) (h2:h≤s.size) :
  (sV (Instr.sliceAt t (.string s) lo hi none)).run P w=.ok (.value (.string (s.extract l h))) w:=by
 refine JY ?_
 have hu:=run_underlying (P:=P) (w:=w) ht
 rcases hlo with ⟨rfl,rfl⟩|⟨k,i,rfl,hi0,rfl⟩ <;> rcases hhi with ⟨rfl,rfl⟩|⟨k',i',rfl,fb,rfl⟩
 ·simp[Instr.sliceAt,Instr.slice,Instr.sliceBounds,hu]
 ·have:i'≤s.size:=by omega
  simp[Instr.sliceAt,Instr.slice,Instr.sliceBounds,Instr.sliceBound,asIntOf,hu,fb,this]
 ·have:i≤s.size:=by omega
  simp[Instr.sliceAt,Instr.slice,Instr.sliceBounds,Instr.sliceBound,asIntOf,hu,hi0,this]
 ·have h3:i'≤s.size:=by omega
  have h4:i≤i'.toNat:=by omega
  simp[Instr.sliceAt,Instr.slice,Instr.sliceBounds,Instr.sliceBound,asIntOf,hu,hi0,fb,h3]
  omega
theorem HU {P:Program} {w:World} {t:TypeId} {x y:ByteArray} (h:x.size+y.size≤9223372036854775807) :
  (sV (binOp .add t (.string x) (.string y))).run P w=.ok (.value (.string (x++y))) w:=by
 refine JY ?_
 have h2:¬ ((x.size+y.size:Nat):Int)>IntKind.i64.max:=by
  have:IntKind.i64.max=9223372036854775807:=rfl
  omega
 simp only[binOp,Op.stringOp]
 rw[if_neg h2]
 rfl
theorem Ws {P:Program} {w:World} {src dst e:TypeId} {A:Option Addr} {l:List Int} {n c:Nat} (hs:P.underlying src=some (.slice e)) (he:P.underlying e=some (.int .u8)) (hd:P.underlying dst=some .string)
  (hR:Rd w 1 A (l.map ic8)) (hn:n=l.length):(sV (convert src dst (.slice A n c))).run P w=.ok (.value (.string (strOf l))) w:=by
 subst hn
 refine JY ?_
 rw[run_convert_bytes_string w src dst e A l.length c hs he hd]
 cases A with
 | none =>
  have:l=[]:=HN hR
  subst this;rfl
 | some a =>
  refine run_bytesToString w a l.length c l ?_
  have:=run_loadCells_list (P:=P) (w:=w) a (l.map (Value.int .u8)) (fun j v hj=>by
   rw[cK] at hj
   cases hx:l[j]? with
   | none=>rw[hx] at hj;cases hj
   | some x =>
    rw[hx] at hj
    simp only[cE,aD] at hj
    subst hj
    obtain⟨_,ad,h2,_,h4⟩:=hR.row j (ic8 x) (by rw[cK,hx];rfl)
    simp only[aD] at h2;subst h2
    have:=h4 0 (.int .u8 x) rfl
    rwa [Nat.mul_one,bI] at this)
  simpa using this
end Go.Eng
end
section
namespace Go.Eng
def dbl (n:Int):Nat:=FloatKind.f64.nearest n
def fcm (x y:Nat):Option Ordering:=FloatKind.f64.format.order x y
def feq (x y:Nat):Bool:=fcm x y==some .eq
def fne (x y:Nat):Bool:=fcm x y != some .eq
def flt (x y:Nat):Bool:=fcm x y==some .lt
def fgt (x y:Nat):Bool:=fcm x y==some .gt
def Zf (x y:Nat):Nat:=(FloatKind.f64.format.mul x y).getD 0
theorem Y6 {P:Program} {w:World} {t:TypeId} {x y:Nat} (h:(FloatKind.f64.format.mul x y).isSome=true) :
  (sV (binOp .mul t (.float .f64 x) (.float .f64 y))).run P w=.ok (.value (.float .f64 (Zf x y))) w:=by
 refine JY ?_
 obtain⟨r,hr⟩:=dH.1 h
 simp only[binOp,Op.floatArith,Zf,hr]
 rfl
theorem Kx {f:FuncId} {P:Program} {w:World} {fn:Func} {b:Nat} (hf:P.funcs[f]?=some fn) (pe:(fn.name == "runtime.NumGoroutine")=false) (hb:fn.body.isNone=true) (hn:Extern.findNext fn=none)
  (he:Extern.find fn=some Extern.MathFloatBits.float64bits):(callFunc f #[.float .f64 b]).run P w=.ok (.value (.int .u64 (b:Int))) w:=by
 rw[run_callFunc_extern hf pe hb hn he];rfl
theorem XP {f:FuncId} {P:Program} {w:World} {fn:Func} {n:Int} (hf:P.funcs[f]?=some fn) (pe:(fn.name == "runtime.NumGoroutine")=false) (hb:fn.body.isNone=true) (hn:Extern.findNext fn=none)
  (he:Extern.find fn=some Extern.MathFloatBits.float64frombits):(callFunc f #[.int .u64 n]).run P w=.ok (.value (.float .f64 n.toNat)) w:=by
 rw[run_callFunc_extern hf pe hb hn he];rfl
end Go.Eng
end
section
namespace Go.Sky
open Go Go.Eng
theorem GV {a b:Nat} (ha:a<18446744073709551616) (hb:b<18446744073709551616):Z6 .u64 (a:Int) (b:Int)=((a &&& b:Nat):Int):=by
 have hx:a &&& b<18446744073709551616:=eZ Nat.and_le_left ha
 have e:(BitVec.ofInt IntKind.u64.bits (a:Int) &&& BitVec.ofInt IntKind.u64.bits (b:Int)).toNat=a &&& b:=by
  rw[BitVec.toNat_and,BitVec.ofInt_natCast,BitVec.ofInt_natCast,BitVec.toNat_ofNat,BitVec.toNat_ofNat]
  have hs:(2:Nat) ^ IntKind.u64.bits=18446744073709551616:=rfl
  rw[hs,cI ha,cI hb]
 unfold Z6
 rw[e]
 exact JK (by omega)
theorem WS {a b:Nat} (ha:a<18446744073709551616) (hb:b<18446744073709551616):kor .u64 (a:Int) (b:Int)=((a ||| b:Nat):Int):=by
 have hx:a ||| b<18446744073709551616:=Nat.or_lt_two_pow (n:=64) ha hb
 have e:(BitVec.ofInt IntKind.u64.bits (a:Int) ||| BitVec.ofInt IntKind.u64.bits (b:Int)).toNat=a ||| b:=by
  rw[BitVec.toNat_or,BitVec.ofInt_natCast,BitVec.ofInt_natCast,BitVec.toNat_ofNat,BitVec.toNat_ofNat]
  have hs:(2:Nat) ^ IntKind.u64.bits=18446744073709551616:=rfl
  rw[hs,cI ha,cI hb]
 unfold kor
 rw[e]
 exact JK (by omega)
theorem WT {a b:Nat} (ha:a<18446744073709551616) (hb:b<18446744073709551616):YB .u64 (a:Int) (b:Int)=((a &&& (18446744073709551615-b):Nat):Int):=by
 have hx:a &&& (18446744073709551615-b)<18446744073709551616:=eZ Nat.and_le_left ha
 have e:(BitVec.ofInt IntKind.u64.bits (a:Int) &&& ~~~BitVec.ofInt IntKind.u64.bits (b:Int)).toNat=a &&& (18446744073709551615-b):=by
  rw[BitVec.toNat_and,BitVec.toNat_not,BitVec.ofInt_natCast,BitVec.ofInt_natCast,BitVec.toNat_ofNat,BitVec.toNat_ofNat]
  have hs:(2:Nat) ^ IntKind.u64.bits=18446744073709551616:=rfl
  rw[hs,cI ha,cI hb]
 unfold YB
 rw[e]
 exact JK (by omega)
theorem Nb (b:Int) (m:Int):∃ n:Nat,n<18446744073709551616∧YB .u64 b m=YB .u64 (n:Int) m:=by
 refine⟨(BitVec.ofInt 64 b).toNat,(BitVec.ofInt 64 b).isLt,?_⟩
 unfold YB
 have:BitVec.ofInt IntKind.u64.bits (((BitVec.ofInt 64 b).toNat:Nat):Int)=BitVec.ofInt IntKind.u64.bits b:=by
  show BitVec.ofInt 64 _=BitVec.ofInt 64 b
  rw[BitVec.ofInt_natCast,BitVec.ofNat_toNat,BitVec.setWidth_eq]
 rw[this]
theorem Uy {x:Nat} (h:x<18446744073709551616):YB .u64 (x:Int) 9223372036854775808=((x%9223372036854775808:Nat):Int):=by
 have e:=WT (a:=x) (b:=9223372036854775808) h (by decide)
 rw[show ((9223372036854775808:Nat):Int)=9223372036854775808 from rfl] at e
 rw[e,show 18446744073709551615-9223372036854775808=2 ^ 63-1 by decide,Nat.and_two_pow_sub_one_eq_mod]
theorem Rh {x:Nat} (h:x<18446744073709551616):YB .u64 (x:Int) 9218868437227405312=((x/9223372036854775808*9223372036854775808+x%4503599627370496:Nat):Int):=by
 have e:=WT (a:=x) (b:=9218868437227405312) h (by decide)
 rw[show ((9218868437227405312:Nat):Int)=9218868437227405312 from rfl] at e
 rw[e]
 congr 1
 have h1:18446744073709551615-9218868437227405312=2 ^ 63 ||| (2 ^ 52-1):=by decide
 have h2:x/9223372036854775808*9223372036854775808+x%4503599627370496=2 ^ 63*(x/2 ^ 63) ||| x%2 ^ 52:=by
  rw[← Nat.two_pow_add_eq_or_of_lt (by omega)]
  omega
 rw[h1,h2,Nat.and_or_distrib_left,Nat.and_two_pow_sub_one_eq_mod]
 congr 1
 apply Nat.eq_of_testBit_eq
 intro i
 rw[Nat.testBit_and,Nat.testBit_two_pow,Nat.testBit_two_pow_mul,Nat.testBit_div_two_pow]
 rcases fC i 63 with h3|h3|h3
 ·simp[show ¬ 63=i by omega,show ¬ i≥63 by omega]
 ·subst h3;simp
 ·have h4:x.testBit i=false:=Nat.testBit_lt_two_pow (bV h (by have:=bP (show 0<2 by decide) (show 64≤i by omega);exact this))
  simp only[h4,fW,show i-63+63=i by omega,Bool.and_false]
theorem Pj {x e:Nat} (h:x<18446744073709551616) (he:e<2048):kor .u64 (YB .u64 (x:Int) 9218868437227405312) (Z0 ((Z0 (e:Int))*2 ^ 52)) =
  ((x/9223372036854775808*9223372036854775808+e*4503599627370496+x%4503599627370496:Nat):Int):=by
 rw[Rh h,JK (x:=(e:Int)) (by omega)]
 have e1:Z0 ((e:Int)*2 ^ 52)=((e*4503599627370496:Nat):Int):=by rw[JK (by omega)];omega
 rw[e1,WS (by omega) (by omega)]
 congr 1
 have h1:x/9223372036854775808*9223372036854775808+x%4503599627370496=2 ^ 63*(x/2 ^ 63) ||| x%2 ^ 52:=by
  rw[← Nat.two_pow_add_eq_or_of_lt (by omega)]
  omega
 have h2:2 ^ 52*e+x%2 ^ 52=2 ^ 52*e ||| x%2 ^ 52:=Nat.two_pow_add_eq_or_of_lt (by omega) e
 have h3:2 ^ 63*(x/2 ^ 63)+(2 ^ 52*e+x%2 ^ 52)=2 ^ 63*(x/2 ^ 63) ||| (2 ^ 52*e+x%2 ^ 52):=Nat.two_pow_add_eq_or_of_lt (by omega) _
 rw[h1,Nat.or_assoc,Nat.or_comm (x%2 ^ 52),show e*4503599627370496=2 ^ 52*e from cS e 4503599627370496,← h2,← h3]
 omega
theorem BO {x:Nat} (h:x%9223372036854775808<9218868437227405312):∃ s m p,FloatKind.f64.format.read x=.number s m p:=by
 unfold Ieee.Format.read
 have e1:FloatKind.f64.format.signWeight=9223372036854775808:=rfl
 have e2:FloatKind.f64.format.binade=4503599627370496:=rfl
 have e3:FloatKind.f64.format.infRung=9218868437227405312:=rfl
 simp only[e1,e2,e3]
 by_cases h1:x%9223372036854775808<4503599627370496
 ·rw[if_pos h1];exact⟨_,_,_,rfl⟩
 ·rw[if_neg h1,if_pos h];exact⟨_,_,_,rfl⟩
theorem MS {x y:Nat} (hx:x%9223372036854775808<9218868437227405312) (hy:y%9223372036854775808<9218868437227405312):(FloatKind.f64.format.mul x y).isSome=true:=by
 obtain⟨s,m,p,e1⟩:=BO hx
 obtain⟨s',m',p',e2⟩:=BO hy
 unfold Ieee.Format.mul
 rw[e1,e2];rfl
theorem dbl_lt (n:Int):dbl n<18446744073709551616:=FloatKind.f64.format.write_lt (.number (n<0) n.natAbs 0)
theorem Iu {x:Nat} (h0:x<9223372036854775808) (h:flt x 4503599627370496=true):x<9218868437227405312:=by
 rcases dP x 9218868437227405312 with h1|h1
 ·exact h1
 ·exfalso
  have e:FloatKind.f64.format.read x=.infinity false∨∃ f,FloatKind.f64.format.read x=.nan false f:=by
   unfold Ieee.Format.read
   have e1:FloatKind.f64.format.signWeight=9223372036854775808:=rfl
   have e2:FloatKind.f64.format.binade=4503599627370496:=rfl
   have e3:FloatKind.f64.format.infRung=9218868437227405312:=rfl
   simp only[e1,e2,e3]
   rw[cI h0,if_neg (by omega),if_neg (by omega),Nat.div_eq_of_lt h0]
   by_cases h2:x=9218868437227405312
   ·rw[if_pos h2];exact .inl rfl
   ·rw[if_neg h2];exact .inr ⟨_,rfl⟩
  obtain⟨s',m',p',e2⟩:=BO (x:=4503599627370496) (by decide)
  unfold flt fcm Ieee.Format.order at h
  rw[e2] at h
  rcases e with e|⟨f,e⟩ <;> rw[e] at h <;> simp[Ieee.Datum.order] at h
theorem T8 {x:Nat} (hx:x<18446744073709551616) (h:flt (YB .u64 (x:Int) 9223372036854775808).toNat 4503599627370496=true):(FloatKind.f64.format.mul x 4841369599423283200).isSome=true:=by
 rw[Uy hx,aP] at h
 exact MS (Iu (by omega) h) (by decide)
theorem Pm (b:Int) {e:Int} (h:1≤e∧e≤2046):(kor .u64 (YB .u64 b 9218868437227405312) (Z0 ((Z0 e)*2 ^ 52))).toNat%9223372036854775808<9218868437227405312:=by
 obtain⟨n,hn,hb⟩:=Nb b 9218868437227405312
 obtain⟨k,rfl⟩:∃ k:Nat,e=(k:Int):=⟨e.toNat,by omega⟩
 rw[hb,Pj hn (by omega),aP]
 omega
theorem Br {m:Nat} (hm:m=4368491638549381120∨m=4607182418800017408) (b:Int) {e:Int} (h:1≤e∧e≤2046):(FloatKind.f64.format.mul m (kor .u64 (YB .u64 b 9218868437227405312) (Z0 ((Z0 e)*2 ^ 52))).toNat).isSome=true :=
 MS (by rcases hm with rfl|rfl <;> decide) (Pm b h)
theorem Pn {X:Int} (h1:-1075≤X) (h2:X < -1022):1≤w64 (w64 (X+53)+1023)∧w64 (w64 (X+53)+1023)≤2046:=by
 rw[Zu (x:=X+53) (by omega),Zu (by omega)];omega
theorem Pq {X:Int} (h1:-1022≤X) (h2:X≤1023):1≤w64 (X+1023)∧w64 (X+1023)≤2046:=by
 rw[Zu (by omega)];omega
end Go.Sky
end
section
namespace Go.Sky
open Go Go.Eng Go.Proofs
def JF (x:Nat):Nat :=
 (YB .u64 (x:Int) 9223372036854775808).toNat
theorem W3 (x:Nat) (w:World):Calls Tryz.prog 150 #[.float .f64 x] w (Ret w (.float .f64 (JF x))):=by
 exact Zo (vs:=[.float .f64 x]) (w:=w) Tryz.func150 rfl Tryz.ntmps150 rfl (Ze (Zc 1 [] [(2,.float .f64 0)] {} (Zv (Zc 1 [] [(3,.float .f64 x)] {} (TL.v (callFunc 63 #[.float .f64 x]) 4 (.int .u64 (x:Int)) (fun w hM=>Kx Tryz.func63 Kr Kr Kr Kr) {} (Zc 3 [] [(5,.int .u64 (YB .u64 (x:Int) 9223372036854775808))] {} (TL.v (callFunc 143 #[.int .u64 (YB .u64 (x:Int) 9223372036854775808)]) 6 (.float .f64 ((YB .u64 (x:Int) 9223372036854775808).toNat)) (fun w hM=>XP Tryz.func143 Kr Kr Kr Kr) {} (Zc 5 [] [(2,.float .f64 ((YB .u64 (x:Int) 9223372036854775808).toNat))] {} (Zb rfl (TC.ret (TE.ret [] (.float .f64 ((YB .u64 (x:Int) 9223372036854775808).toNat)) {} (by unfold JF;refine eS (fun z=>(.float .f64 z:Value)) ?_;exact rfl))))))))))))
def Vr (f:Nat) (sign:Int):Bool :=
 cond (sign==0) (
  let r1:=JF f
  fgt r1 9218868437227405311) (
  false)
theorem Nc (f:Nat) (sign:Int) (w:World) (hs:sign=0):Calls Tryz.prog 133 #[.float .f64 f,.int .i64 sign] w (Ret w (.bool (Vr f sign))):=by
 refine Zo (vs:=[.float .f64 f,.i sign]) (w:=w) Tryz.func133 rfl Tryz.ntmps133 rfl (Ze (Zc 1 [] [(4,.b false)] {} (Zz (Ze (Zc 2 [] [(6,.b (sign==0))] {} (Zb rfl (TC.cond (sign==0) rfl Kr (fun h1=>?_) (fun h1=>?_))))))))
 ·exact TC.region (Zc 1 [] [(7,.float .f64 f)] {} (TL.c 8 (JF f) (fun r1=>.float .f64 r1) (fun w _=>W3 f w) {} (fun r1 hr1=>Zc 3 [] [(0,.float .f64 r1)] {} (Zv (Zc 3 [] [(4,.b (fgt r1 9218868437227405311))] {} (Zb rfl (TC.ret (TE.ret [] (.b (fgt r1 9218868437227405311)) {} (by unfold Vr;refine eS (fun z=>(.b z:Value)) ?_;subst hr1;exact Zk h1 (rfl))))))))))
 ·exact((by subst hs;cases h1):False).elim
def QV (f:Nat):Bool :=
 fne f f
theorem VK (f:Nat) (w:World):Calls Tryz.prog 132 #[.float .f64 f] w (Ret w (.bool (QV f))):=by
 exact Zo (vs:=[.float .f64 f]) (w:=w) Tryz.func132 rfl Tryz.ntmps132 rfl (Ze (Zc 1 [] [(2,.b false)] {} (Zv (Zc 4 [] [(2,.b (fne f f))] {} (Zb rfl (TC.ret (TE.ret [] (.b (fne f f)) {} (by unfold QV;refine eS (fun z=>(.b z:Value)) ?_;exact rfl))))))))
def QL (x:Nat):Nat×Int :=
 let r1:=JF x
 cond (flt r1 4503599627370496) (
  (Zf x 4841369599423283200,(-52))) (
  (x,0))
theorem H2 (x:Nat) (w:World) (hx:x<18446744073709551616):Calls Tryz.prog 141 #[.float .f64 x] w (Ret w (.tuple #[.float .f64 ((QL x).1),.int .i64 ((QL x).2)])):=by
 refine Zo (vs:=[.float .f64 x]) (w:=w) Tryz.func141 rfl Tryz.ntmps141 rfl (Ze (Zc 2 [] [(2,.float .f64 0),(3,.i 0)] {} (Zz (Ze (Zc 1 [] [(4,.float .f64 x)] {} (TL.c 5 (JF x) (fun r1=>.float .f64 r1) (fun w _=>W3 x w) {} (fun r1 hr1=>Zc 3 [] [(6,.b (flt r1 4503599627370496))] {} (Zb rfl (TC.cond (flt r1 4503599627370496) rfl Kr (fun h1=>?_) (fun h1=>?_))))))))))
 ·exact Ze (Zc 1 [] [(7,.float .f64 x)] {} (TL.v (sV (binOp .mul 130 (.float .f64 x) (.float .f64 4841369599423283200))) 8 (.float .f64 (Zf x 4841369599423283200)) (fun w hM=>Y6 (by subst hr1;exact T8 hx h1)) {} (Zc 4 [] [(2,.float .f64 (Zf x 4841369599423283200)),(3,.i (-52))] {} (Zb rfl (TC.ret (Zq (TE.ret [] (.tuple #[.float .f64 (Zf x 4841369599423283200),.i (-52)]) {} (by unfold QL;refine eS (a:=(Zf x 4841369599423283200,(-52))) (fun (z:Nat×Int)=>(.tuple #[.float .f64 z.1,.i z.2]:Value)) ?_;subst hr1;exact Zk h1 (rfl)))))))))
 ·exact ZI (Zc 3 [] [(2,.float .f64 x),(3,.i 0)] {} (Zb rfl (TC.ret (TE.ret [] (.tuple #[.float .f64 x,.i 0]) {} (by unfold QL;refine eS (a:=(x,0)) (fun (z:Nat×Int)=>(.tuple #[.float .f64 z.1,.i z.2]:Value)) ?_;subst hr1;exact Zd h1 (rfl))))))
def Xj (f:Nat) (sign:Nat):Nat :=
 (kor .u64 (YB .u64 (f:Int) 9223372036854775808) (Z6 .u64 (sign:Int) 9223372036854775808)).toNat
theorem JP (f:Nat) (sign:Nat) (w:World):Calls Tryz.prog 137 #[.float .f64 f,.float .f64 sign] w (Ret w (.float .f64 (Xj f sign))):=by
 exact Zo (vs:=[.float .f64 f,.float .f64 sign]) (w:=w) Tryz.func137 rfl Tryz.ntmps137 rfl (Ze (Zc 1 [] [(4,.float .f64 0)] {} (Zv (Zc 1 [] [(5,.float .f64 f)] {} (TL.v (callFunc 63 #[.float .f64 f]) 6 (.int .u64 (f:Int)) (fun w hM=>Kx Tryz.func63 Kr Kr Kr Kr) {} (Zc 4 [] [(7,.int .u64 (YB .u64 (f:Int) 9223372036854775808)),(8,.float .f64 sign)] {} (TL.v (callFunc 63 #[.float .f64 sign]) 9 (.int .u64 (sign:Int)) (fun w hM=>Kx Tryz.func63 Kr Kr Kr Kr) {} (Zc 7 [] [(11,.int .u64 (kor .u64 (YB .u64 (f:Int) 9223372036854775808) (Z6 .u64 (sign:Int) 9223372036854775808)))] {} (TL.v (callFunc 143 #[.int .u64 (kor .u64 (YB .u64 (f:Int) 9223372036854775808) (Z6 .u64 (sign:Int) 9223372036854775808))]) 12 (.float .f64 ((kor .u64 (YB .u64 (f:Int) 9223372036854775808) (Z6 .u64 (sign:Int) 9223372036854775808)).toNat)) (fun w hM=>XP Tryz.func143 Kr Kr Kr Kr) {} (Zc 9 [] [(4,.float .f64 ((kor .u64 (YB .u64 (f:Int) 9223372036854775808) (Z6 .u64 (sign:Int) 9223372036854775808)).toNat))] {} (Zb rfl (TC.ret (TE.ret [] (.float .f64 ((kor .u64 (YB .u64 (f:Int) 9223372036854775808) (Z6 .u64 (sign:Int) 9223372036854775808)).toNat)) {} (by unfold Xj;refine eS (fun z=>(.float .f64 z:Value)) ?_;exact rfl))))))))))))))
def VY (sign:Int):Nat :=
 cond (decide (sign≥0)) (
  9218868437227405312) (
  18442240474082181120)
theorem BP (sign:Int) (w:World):Calls Tryz.prog 142 #[.int .i64 sign] w (Ret w (.float .f64 (VY sign))):=by
 refine Zo (vs:=[.i sign]) (w:=w) Tryz.func142 rfl Tryz.ntmps142 rfl (Ze (Zc 1 [] [(2,.float .f64 0)] {} (Zv (Zc 1 [] [(3,.int .u64 0)] {} (Zz (Ze (Zc 2 [] [(5,.b (decide (sign≥0)))] {} (Zb rfl (TC.cond (decide (sign≥0)) rfl Kr (fun h1=>?_) (fun h1=>?_))))))))))
 ·exact TC.region (Zc 1 [] [(3,.int .u64 9218868437227405312)] {} (Zv (Zc 1 [] [(6,.int .u64 9218868437227405312)] {} (TL.v (callFunc 143 #[.int .u64 9218868437227405312]) 7 (.float .f64 9218868437227405312) (fun w hM=>XP Tryz.func143 Kr Kr Kr Kr) {} (Zc 3 [] [(2,.float .f64 9218868437227405312)] {} (Zb rfl (TC.ret (TE.ret [] (.float .f64 9218868437227405312) {} (by unfold VY;refine eS (fun z=>(.float .f64 z:Value)) ?_;exact Zk h1 (rfl))))))))))
 ·exact TC.region (Zc 1 [] [(3,.int .u64 18442240474082181120)] {} (Zv (Zc 1 [] [(6,.int .u64 18442240474082181120)] {} (TL.v (callFunc 143 #[.int .u64 18442240474082181120]) 7 (.float .f64 18442240474082181120) (fun w hM=>XP Tryz.func143 Kr Kr Kr Kr) {} (Zc 3 [] [(2,.float .f64 18442240474082181120)] {} (Zb rfl (TC.ret (TE.ret [] (.float .f64 18442240474082181120) {} (by unfold VY;refine eS (fun z=>(.float .f64 z:Value)) ?_;exact Zd h1 (rfl))))))))))
def QC (x8:Nat) (exp:Int):Nat :=
 cond (feq x8 0) (
  x8) (
  let r1:=Vr x8 0
  cond r1 (
   x8) (
   let r2:=QV x8
   cond r2 (
    x8) (
    let r3:=QL x8
    cond (decide ((w64 ((w64 (exp+r3.2))+(w64 ((Z6 .i64 (w64 ((r3.1:Int).fdiv (2 ^ 52))) 2047)-1023))))<(-1075))) (
     let r4:=Xj 0 r3.1
     r4) (
     cond (decide ((w64 ((w64 (exp+r3.2))+(w64 ((Z6 .i64 (w64 ((r3.1:Int).fdiv (2 ^ 52))) 2047)-1023))))>1023)) (
      cond (flt r3.1 0) (
       let r5:=VY (-1)
       r5) (
       let r6:=VY 1
       r6)) (
      cond (decide ((w64 ((w64 (exp+r3.2))+(w64 ((Z6 .i64 (w64 ((r3.1:Int).fdiv (2 ^ 52))) 2047)-1023))))<(-1022))) (
       let r7:=kor .u64 (YB .u64 (r3.1:Int) 9218868437227405312) (Z0 ((Z0 (w64 ((w64 ((w64 ((w64 (exp+r3.2))+(w64 ((Z6 .i64 (w64 ((r3.1:Int).fdiv (2 ^ 52))) 2047)-1023))))+53))+1023)))*2 ^ 52))
       Zf 4368491638549381120 r7.toNat) (
       Zf 4607182418800017408 ((kor .u64 (YB .u64 (r3.1:Int) 9218868437227405312) (Z0 ((Z0 (w64 ((w64 ((w64 (exp+r3.2))+(w64 ((Z6 .i64 (w64 ((r3.1:Int).fdiv (2 ^ 52))) 2047)-1023))))+1023)))*2 ^ 52))).toNat)))))))
set_option maxHeartbeats 4000000 in
theorem Nh (x8:Nat) (exp:Int) (w:World) (hx:x8<18446744073709551616):Calls Tryz.prog 105 #[.float .f64 x8,.int .i64 exp] w (Ret w (.float .f64 (QC x8 exp))):=by
 refine Zo (vs:=[.float .f64 x8,.i exp]) (w:=w) Tryz.func105 rfl Tryz.ntmps105 rfl (Ze (Zc 1 [] [(4,.float .f64 0)] {} (Zz (TC.block (Ze (Zc 3 [] [(8,.b (feq x8 0))] {} (Zb rfl (TC.cond (feq x8 0) rfl Kr (fun h1=>?_) (fun h1=>?_)))))))))
 ·refine Ze (Zc 2 [] [(4,.float .f64 x8)] {} (Zb rfl (TC.ret (ZY (Zq ?_)))))
  exact TE.ret [] (.float .f64 x8) {} (by unfold QC;refine eS (fun z=>(.float .f64 z:Value)) ?_;exact Zk h1 (rfl))
 ·refine Ze (Zc 1 [] [(13,.float .f64 x8)] {} (TL.c 14 (Vr x8 0) (fun r1=>.b r1) (fun w _=>Nc x8 0 w sg) {} (fun r1 hr1=>Zc 3 [] [(15,.b r1)] {} (Yo 15 r1 Kr (fun h2=>?_) (fun h2=>?_)))))
  ·refine Zc 7 [] [(12,.b true)] {} (Zb rfl (Xo rfl Kr (Ze (Zc 2 [] [(4,.float .f64 x8)] {} (Zb rfl (TC.ret (ZY (Zq ?_))))))))
   exact TE.ret [] (.float .f64 x8) {} (by unfold QC;refine eS (fun z=>(.float .f64 z:Value)) ?_;subst hr1;exact Zd h1 (Zk h2 (rfl)))
  ·refine Zc 4 [] [(16,.float .f64 x8)] {} (TL.c 17 (QV x8) (fun r2=>.b r2) (fun w _=>VK x8 w) {} (fun r2 hr2=>Zc 7 [] [(12,.b r2)] {} (Zb rfl (TC.cond r2 rfl Kr (fun h3=>?_) (fun h3=>?_)))))
   ·refine Ze (Zc 2 [] [(4,.float .f64 x8)] {} (Zb rfl (TC.ret (ZY (Zq ?_)))))
    exact TE.ret [] (.float .f64 x8) {} (by unfold QC;refine eS (fun z=>(.float .f64 z:Value)) ?_;subst hr1 hr2;exact Zd h1 (Zd h2 (Zk h3 (rfl))))
   ·refine TC.skip (Yr (YZ (Zc 1 [] [(21,.float .f64 x8)] {} (TL.c 22 (QL x8) (fun r3=>.tuple #[.float .f64 r3.1,.i r3.2]) (fun w _=>H2 x8 w hx) {} (fun r3 hr3=>Zc 7 [] [(0,.float .f64 r3.1),(5,.i r3.2)] {} (Zv (Zc 4 [] [(1,.i (w64 (exp+r3.2)))] {} (Zv (Zc 1 [] [(28,.float .f64 r3.1)] {} (TL.v (callFunc 63 #[.float .f64 r3.1]) 29 (.int .u64 (r3.1:Int)) (fun w hM=>Kx Tryz.func63 Kr Kr Kr Kr) {} (Zc 3 [] [(6,.int .u64 (r3.1:Int))] {} (Zv (Zc 8 [] [(1,.i (w64 ((w64 (exp+r3.2))+(w64 ((Z6 .i64 (w64 ((r3.1:Int).fdiv (2 ^ 52))) 2047)-1023)))))] {} (Zz (Ze (Zc 2 [] [(38,.b (decide ((w64 ((w64 (exp+r3.2))+(w64 ((Z6 .i64 (w64 ((r3.1:Int).fdiv (2 ^ 52))) 2047)-1023))))<(-1075))))] {} (Zb rfl (TC.cond (decide ((w64 ((w64 (exp+r3.2))+(w64 ((Z6 .i64 (w64 ((r3.1:Int).fdiv (2 ^ 52))) 2047)-1023))))<(-1075))) rfl Kr (fun h4=>?_) (fun h4=>?_)))))))))))))))))))
    ·exact Ze (Zc 1 [] [(39,.float .f64 r3.1)] {} (TL.c 40 (Xj 0 r3.1) (fun r4=>.float .f64 r4) (fun w _=>JP 0 r3.1 w) {} (fun r4 hr4=>Zc 3 [] [(4,.float .f64 r4)] {} (Zb rfl (TC.ret (Zq (TE.ret [] (.float .f64 r4) {} (by unfold QC;refine eS (fun z=>(.float .f64 z:Value)) ?_;subst hr1 hr2 hr3 hr4;exact Zd h1 (Zd h2 (Zd h3 (Zk h4 (rfl))))))))))))
    ·have yl:=(Zt h4)
     refine Yg (TC.seq (Ze (Zc 2 [] [(42,.b (decide ((w64 ((w64 (exp+r3.2))+(w64 ((Z6 .i64 (w64 ((r3.1:Int).fdiv (2 ^ 52))) 2047)-1023))))>1023)))] {} (Zb rfl (TC.cond (decide ((w64 ((w64 (exp+r3.2))+(w64 ((Z6 .i64 (w64 ((r3.1:Int).fdiv (2 ^ 52))) 2047)-1023))))>1023)) rfl Kr (fun h5=>?_) (fun h5=>?_))))))
     ·refine TC.seq (Ze (Zc 2 [] [(44,.b (flt r3.1 0))] {} (Zb rfl (TC.cond (flt r3.1 0) rfl Kr (fun h6=>?_) (fun h6=>?_)))))
      ·refine Ze (TL.c 45 (VY (-1)) (fun r5=>.float .f64 r5) (fun w _=>BP (-1) w) {} (fun r5 hr5=>Zc 2 [] [(4,.float .f64 r5)] {} (Zb rfl (TC.ret (Zq (Zq ?_))))))
       exact TE.ret [] (.float .f64 r5) {} (by unfold QC;refine eS (fun z=>(.float .f64 z:Value)) ?_;subst hr1 hr2 hr3 hr5;exact Zd h1 (Zd h2 (Zd h3 (Zd h4 (Zk h5 (Zk h6 (rfl)))))))
      ·exact ZI (TL.c 46 (VY 1) (fun r6=>.float .f64 r6) (fun w _=>BP 1 w) {} (fun r6 hr6=>Zc 2 [] [(4,.float .f64 r6)] {} (Zb rfl (TC.ret (Zq (TE.ret [] (.float .f64 r6) {} (by unfold QC;refine eS (fun z=>(.float .f64 z:Value)) ?_;subst hr1 hr2 hr3 hr6;exact Zd h1 (Zd h2 (Zd h3 (Zd h4 (Zk h5 (Zd h6 (rfl)))))))))))))
     ·have yr:=(Zt h5)
      refine ZI (Zc 1 [] [(7,.float .f64 4607182418800017408)] {} (Zz (Ze (Zc 2 [] [(48,.b (decide ((w64 ((w64 (exp+r3.2))+(w64 ((Z6 .i64 (w64 ((r3.1:Int).fdiv (2 ^ 52))) 2047)-1023))))<(-1022))))] {} (Zb rfl (TC.cond (decide ((w64 ((w64 (exp+r3.2))+(w64 ((Z6 .i64 (w64 ((r3.1:Int).fdiv (2 ^ 52))) 2047)-1023))))<(-1022))) rfl Kr (fun h7=>?_) (fun h7=>?_)))))))
      ·have ym:=(Ys h7)
       refine Ze (Zc 3 [] [(1,.i (w64 ((w64 ((w64 (exp+r3.2))+(w64 ((Z6 .i64 (w64 ((r3.1:Int).fdiv (2 ^ 52))) 2047)-1023))))+53)))] {} (Zb rfl (TC.region (Zc 1 [] [(7,.float .f64 4368491638549381120)] {} (Zv (Zc 3 [] [(6,.int .u64 (YB .u64 (r3.1:Int) 9218868437227405312))] {} (Zv (Zc 7 [] [(6,.int .u64 (kor .u64 (YB .u64 (r3.1:Int) 9218868437227405312) (Z0 ((Z0 (w64 ((w64 ((w64 ((w64 (exp+r3.2))+(w64 ((Z6 .i64 (w64 ((r3.1:Int).fdiv (2 ^ 52))) 2047)-1023))))+53))+1023)))*2 ^ 52))))] {} ?_))))))))
       generalize hr7:kor .u64 (YB .u64 (r3.1:Int) 9218868437227405312) (Z0 ((Z0 (w64 ((w64 ((w64 ((w64 (exp+r3.2))+(w64 ((Z6 .i64 (w64 ((r3.1:Int).fdiv (2 ^ 52))) 2047)-1023))))+53))+1023)))*2 ^ 52))=r7
       exact Zv (Zc 2 [] [(59,.float .f64 4368491638549381120),(60,.int .u64 r7)] {} (TL.v (callFunc 143 #[.int .u64 r7]) 61 (.float .f64 r7.toNat) (fun w hM=>XP Tryz.func143 Kr Kr Kr Kr) {} (TL.v (sV (binOp .mul 130 (.float .f64 4368491638549381120) (.float .f64 r7.toNat))) 62 (.float .f64 (Zf 4368491638549381120 r7.toNat)) (fun w hM=>Y6 (by subst hr1 hr2 hr3 hr7;first|exact Br (.inr rfl) _ (Pq (by omega) (by omega))|exact Br (.inl rfl) _ (Pn (by omega) (by omega)))) {} (Zc 5 [] [(4,.float .f64 (Zf 4368491638549381120 r7.toNat))] {} (Zb rfl (TC.ret (TE.ret [] (.float .f64 (Zf 4368491638549381120 r7.toNat)) {} (by unfold QC;refine eS (fun z=>(.float .f64 z:Value)) ?_;subst hr1 hr2 hr3 hr7;exact Zd h1 (Zd h2 (Zd h3 (Zd h4 (Zd h5 (Zk h7 (rfl))))))))))))))
      ·have ym:=(Zt h7)
       exact ZI (Zc 3 [] [(6,.int .u64 (YB .u64 (r3.1:Int) 9218868437227405312))] {} (Zv (Zc 7 [] [(6,.int .u64 (kor .u64 (YB .u64 (r3.1:Int) 9218868437227405312) (Z0 ((Z0 (w64 ((w64 ((w64 (exp+r3.2))+(w64 ((Z6 .i64 (w64 ((r3.1:Int).fdiv (2 ^ 52))) 2047)-1023))))+1023)))*2 ^ 52))))] {} (Zv (Zc 2 [] [(59,.float .f64 4607182418800017408),(60,.int .u64 (kor .u64 (YB .u64 (r3.1:Int) 9218868437227405312) (Z0 ((Z0 (w64 ((w64 ((w64 (exp+r3.2))+(w64 ((Z6 .i64 (w64 ((r3.1:Int).fdiv (2 ^ 52))) 2047)-1023))))+1023)))*2 ^ 52))))] {} (TL.v (callFunc 143 #[.int .u64 (kor .u64 (YB .u64 (r3.1:Int) 9218868437227405312) (Z0 ((Z0 (w64 ((w64 ((w64 (exp+r3.2))+(w64 ((Z6 .i64 (w64 ((r3.1:Int).fdiv (2 ^ 52))) 2047)-1023))))+1023)))*2 ^ 52)))]) 61 (.float .f64 ((kor .u64 (YB .u64 (r3.1:Int) 9218868437227405312) (Z0 ((Z0 (w64 ((w64 ((w64 (exp+r3.2))+(w64 ((Z6 .i64 (w64 ((r3.1:Int).fdiv (2 ^ 52))) 2047)-1023))))+1023)))*2 ^ 52))).toNat)) (fun w hM=>XP Tryz.func143 Kr Kr Kr Kr) {} (TL.v (sV (binOp .mul 130 (.float .f64 4607182418800017408) (.float .f64 ((kor .u64 (YB .u64 (r3.1:Int) 9218868437227405312) (Z0 ((Z0 (w64 ((w64 ((w64 (exp+r3.2))+(w64 ((Z6 .i64 (w64 ((r3.1:Int).fdiv (2 ^ 52))) 2047)-1023))))+1023)))*2 ^ 52))).toNat)))) 62 (.float .f64 (Zf 4607182418800017408 ((kor .u64 (YB .u64 (r3.1:Int) 9218868437227405312) (Z0 ((Z0 (w64 ((w64 ((w64 (exp+r3.2))+(w64 ((Z6 .i64 (w64 ((r3.1:Int).fdiv (2 ^ 52))) 2047)-1023))))+1023)))*2 ^ 52))).toNat))) (fun w hM=>Y6 (by subst hr1 hr2 hr3;first|exact Br (.inr rfl) _ (Pq (by omega) (by omega))|exact Br (.inl rfl) _ (Pn (by omega) (by omega)))) {} (Zc 5 [] [(4,.float .f64 (Zf 4607182418800017408 ((kor .u64 (YB .u64 (r3.1:Int) 9218868437227405312) (Z0 ((Z0 (w64 ((w64 ((w64 (exp+r3.2))+(w64 ((Z6 .i64 (w64 ((r3.1:Int).fdiv (2 ^ 52))) 2047)-1023))))+1023)))*2 ^ 52))).toNat)))] {} (Zb rfl (TC.ret (TE.ret [] (.float .f64 (Zf 4607182418800017408 ((kor .u64 (YB .u64 (r3.1:Int) 9218868437227405312) (Z0 ((Z0 (w64 ((w64 ((w64 (exp+r3.2))+(w64 ((Z6 .i64 (w64 ((r3.1:Int).fdiv (2 ^ 52))) 2047)-1023))))+1023)))*2 ^ 52))).toNat))) {} (by unfold QC;refine eS (fun z=>(.float .f64 z:Value)) ?_;subst hr1 hr2 hr3;exact Zd h1 (Zd h2 (Zd h3 (Zd h4 (Zd h5 (Zd h7 (rfl))))))))))))))))))
def VZ (x8:Nat) (exp:Int):Nat :=
 let r1:=QC x8 exp
 r1
theorem Ni (x8:Nat) (exp:Int) (w:World) (hx:x8<18446744073709551616):Calls Tryz.prog 64 #[.float .f64 x8,.int .i64 exp] w (Ret w (.float .f64 (VZ x8 exp))):=by
 exact Zo (vs:=[.float .f64 x8,.i exp]) (w:=w) Tryz.func64 rfl Tryz.ntmps64 rfl (Ze (Zc 1 [] [(4,.float .f64 0)] {} (Zz (Jr rfl Kr (ZI (Zc 2 [] [(8,.float .f64 x8),(9,.i exp)] {} (TL.c 10 (QC x8 exp) (fun r1=>.float .f64 r1) (fun w _=>Nh x8 exp w hx) {} (fun r1 hr1=>Zc 4 [] [(4,.float .f64 r1)] {} (Zb rfl (TC.ret (TE.ret [] (.float .f64 r1) {} (by unfold VZ;refine eS (fun z=>(.float .f64 z:Value)) ?_;subst hr1;exact rfl))))))))))))
def YJ (n:Int) (scale:Int):Int×Int :=
 cond ((decide (scale<0))||(decide (scale>60))) (
  (0,4)) (
  let r1:=VZ (dbl n) (w64 (0-scale))
  ((r1:Int),0))
theorem H3 (n:Int) (scale:Int) (w:World):Calls Tryz.prog 29 #[.int .i64 n,.int .i64 scale] w (Ret w (.tuple #[.int .u64 ((YJ n scale).1),.int .i64 ((YJ n scale).2)])):=by
 refine Zo (vs:=[.i n,.i scale]) (w:=w) Tryz.func29 rfl Tryz.ntmps29 rfl (Ze (Zc 2 [] [(4,.int .u64 0),(5,.i 0)] {} (Zz (Ze (Zc 3 [] [(8,.b (decide (scale<0)))] {} (XT 8 (decide (scale<0)) 6 [] [] (fun β=>[(11,.b (β||(decide (scale>60))))]) Kr {} {} (Zb rfl (TC.cond ((decide (scale<0))||(decide (scale>60))) rfl Kr (fun h1=>?_) (fun h1=>?_)))))))))
 ·exact Ze (Zc 2 [] [(4,.int .u64 0),(5,.i 4)] {} (Zb rfl (TC.ret (Zq (TE.ret [] (.tuple #[.int .u64 0,.i 4]) {} (by unfold YJ;refine eS (a:=(0,4)) (fun (z:Int×Int)=>(.tuple #[.int .u64 z.1,.i z.2]:Value)) ?_;exact Zk h1 (rfl)))))))
 ·exact ZI (Zc 4 [] [(13,.float .f64 (dbl n)),(15,.i (w64 (0-scale)))] {} (TL.c 16 (VZ (dbl n) (w64 (0-scale))) (fun r1=>.float .f64 r1) (fun w _=>Ni (dbl n) (w64 (0-scale)) w (dbl_lt _)) {} (fun r1 hr1=>TL.v (callFunc 63 #[.float .f64 r1]) 17 (.int .u64 (r1:Int)) (fun w hM=>Kx Tryz.func63 Kr Kr Kr Kr) {} (Zc 8 [] [(4,.int .u64 (r1:Int)),(5,.i 0)] {} (Zb rfl (TC.ret (TE.ret [] (.tuple #[.int .u64 (r1:Int),.i 0]) {} (by unfold YJ;refine eS (a:=((r1:Int),0)) (fun (z:Int×Int)=>(.tuple #[.int .u64 z.1,.i z.2]:Value)) ?_;subst hr1;exact Zd h1 (rfl)))))))))
def Q3 (b_:Int):Int :=
 w64 (Z6 .u64 (b_.fdiv (2 ^ 52)) 2047)
theorem Gq (b_:Int) (w:World):Calls Tryz.prog 106 #[.int .u64 b_] w (Ret w (.int .i64 (Q3 b_))):=by
 exact Zo (vs:=[.int .u64 b_]) (w:=w) Tryz.func106 rfl Tryz.ntmps106 rfl (Ze (Zc 1 [] [(2,.i 0)] {} (Zv (Zc 5 [] [(2,.i (w64 (Z6 .u64 (b_.fdiv (2 ^ 52)) 2047)))] {} (Zb rfl (TC.ret (TE.ret [] (.i (w64 (Z6 .u64 (b_.fdiv (2 ^ 52)) 2047))) {} (by unfold Q3;refine eS (fun z=>(.i z:Value)) ?_;exact rfl))))))))
def JV (b_:Int):Int :=
 Z6 .u64 b_ 4503599627370495
theorem Bg (b_:Int) (w:World):Calls Tryz.prog 107 #[.int .u64 b_] w (Ret w (.int .u64 (JV b_))):=by
 exact Zo (vs:=[.int .u64 b_]) (w:=w) Tryz.func107 rfl Tryz.ntmps107 rfl (Ze (Zc 1 [] [(2,.int .u64 0)] {} (Zv (Zc 3 [] [(2,.int .u64 (Z6 .u64 b_ 4503599627370495))] {} (Zb rfl (TC.ret (TE.ret [] (.int .u64 (Z6 .u64 b_ 4503599627370495)) {} (by unfold JV;refine eS (fun z=>(.int .u64 z:Value)) ?_;exact rfl))))))))
end Go.Sky
end
