/- Lemmas toward the given statement (part 3 of 20): Wa Geo Crs Trk. Each theorem states its own conditions; nothing is assumed beyond them. -/
import Derived.Test.YtjggkpkehdnhiaaGreatDoorBp02
set_option maxRecDepth 100000
section
namespace Go.Sky
open Go Go.Eng Go.Proofs
def Yd (n:Int) (low:Int) (high:Int):Bool :=
 (decide (n<low))||(decide (n>high))
theorem XN (n:Int) (low:Int) (high:Int) (w:World):Calls Tryz.prog 127 #[.int .i64 n,.int .i64 low,.int .i64 high] w (Ret w (.bool (Yd n low high))):=by
 exact Zp (vs:=[.i n,.i low,.i high]) (w:=w) Tryz.func127 rfl Tryz.ntmps127 rfl (Zf (Zc 1 [] [(6,.b false)] {} (Zz (Zc 4 [] [(10,.b (decide (n<low)))] {} (XM 10 (decide (n<low)) 8 [] [] (fun β=>[(14,.b (β||(decide (n>high))))]) Kr {} {} (Zc 9 [] [(6,.b ((decide (n<low))||(decide (n>high))))] {} (Zb rfl (TC.ret (TE.ret [] (.b ((decide (n<low))||(decide (n>high)))) {} (by unfold Yd;refine eS (fun z=>(.b z:Value)) ?_;exact rfl))))))))))
def Yj (p:P):Int :=
 cond ((((decide (p.X<(-1000000)))||(decide (p.X>1000000)))||(decide (p.Y<(-1000000))))||(decide (p.Y>1000000))) (
  4) (
  0)
theorem QL (p:P) (w:World):Calls Tryz.prog 47 #[P.v p] w (Ret w (.int .i64 (Yj p))):=by
 refine Zp (vs:=[P.v p]) (w:=w) Tryz.func47 rfl Tryz.ntmps47 rfl (Zf (ZA 1 (fun b1=>.p0 b1) (fun b1=>Bk b1 (P.c p) 36) (fun b1=>{}) (fun b1=>Zc 2 [] [(2,.i 0)] {} (Z1 (Zf (Zc 4 [0] [(6,.b (decide (p.X<(-1000000))))] {} (XM 6 (decide (p.X<(-1000000))) 8 [] [0] (fun β=>[(10,.b (β||(decide (p.X>1000000))))]) Kr {} {} (Zc 9 [] [(11,.b ((decide (p.X<(-1000000)))||(decide (p.X>1000000))))] {} (XM 11 ((decide (p.X<(-1000000)))||(decide (p.X>1000000))) 13 [] [0] (fun β=>[(15,.b (β||(decide (p.Y<(-1000000)))))]) Kr {} {} (Zc 14 [] [(16,.b (((decide (p.X<(-1000000)))||(decide (p.X>1000000)))||(decide (p.Y<(-1000000)))))] {} (XM 16 (((decide (p.X<(-1000000)))||(decide (p.X>1000000)))||(decide (p.Y<(-1000000)))) 18 [] [0] (fun β=>[(20,.b (β||(decide (p.Y>1000000))))]) Kr {} {} (Zb rfl (TC.cond ((((decide (p.X<(-1000000)))||(decide (p.X>1000000)))||(decide (p.Y<(-1000000))))||(decide (p.Y>1000000))) rfl Kr (fun h1=>?_) (fun h1=>?_))))))))))))))
 ·exact Zf (Zc 1 [] [(2,.i 4)] {} (Zb rfl (TC.ret (Zo (TE.ret [] (.i 4) {} (by unfold Yj;refine eS (fun z=>(.i z:Value)) ?_;exact Zm h1 (rfl)))))))
 ·exact Yc (Zc 1 [] [(2,.i 0)] {} (Zb rfl (TC.ret (TE.ret [] (.i 0) {} (by unfold Yj;refine eS (fun z=>(.i z:Value)) ?_;exact Ze h1 (rfl))))))
def ZG (s:Zj):Int :=
 let r1:=Yd s.Time 0 200000
 cond r1 (
  4) (
  let r2:=Yj s.At
  cond (r2 != 0) (
   4) (
   let r3:=Yd s.Height 0 60000
   cond r3 (
    4) (
    let r4:=Yd s.Code (-1) 4095
    cond r4 (
     4) (
     let r5:=Yd s.Error 0 1000000
     cond r5 (
      4) (
      0)))))
theorem XX (s:Zj) (w:World):Calls Tryz.prog 70 #[Zj.v s] w (Ret w (.int .i64 (ZG s))):=by
 refine Zp (vs:=[Zj.v s]) (w:=w) Tryz.func70 rfl Tryz.ntmps70 rfl (Zf (ZA 1 (fun b1=>.p0 b1) (fun b1=>Bk b1 (Zj.c s) 42) (fun b1=>{}) (fun b1=>Zc 2 [] [(2,.i 0)] {} (Z1 (Zf (Zc 2 [0] [(4,.i s.Time)] {} (TL.c 5 (Yd s.Time 0 200000) (fun r1=>.b r1) (fun w _=>XN s.Time 0 200000 w) {} (fun r1 hr1=>Zc 4 [] [(6,.b r1)] {} (Yy 6 r1 Kr (fun h1=>?_) (fun h1=>?_))))))))))
 ·exact Zc 24 [] [(26,.b true)] {} (Zb rfl (Xg rfl Kr (Zf (Zc 1 [] [(2,.i 4)] {} (Zb rfl (TC.ret (Zo (TE.ret [] (.i 4) {} (by unfold ZG;refine eS (fun z=>(.i z:Value)) ?_;subst hr1;exact Zm h1 (rfl))))))))))
 ·refine Zc 6 [0] [(8,P.v s.At)] {} (TL.c 9 (Yj s.At) (fun r2=>.i r2) (fun w _=>QL s.At w) {} (fun r2 hr2=>Zc 10 [] [(12,.b (r2 != 0))] {} (Yy 12 (r2 != 0) Kr (fun h2=>?_) (fun h2=>?_))))
  ·exact Zc 24 [] [(26,.b true)] {} (Zb rfl (Xg rfl Kr (Zf (Zc 1 [] [(2,.i 4)] {} (Zb rfl (TC.ret (Zo (TE.ret [] (.i 4) {} (by unfold ZG;refine eS (fun z=>(.i z:Value)) ?_;subst hr1 hr2;exact Ze h1 (Zm h2 (rfl)))))))))))
  ·refine Zc 12 [0] [(14,.i s.Height)] {} (TL.c 15 (Yd s.Height 0 60000) (fun r3=>.b r3) (fun w _=>XN s.Height 0 60000 w) {} (fun r3 hr3=>Zc 15 [] [(17,.b r3)] {} (Yy 17 r3 Kr (fun h3=>?_) (fun h3=>?_))))
   ·exact Zc 24 [] [(26,.b true)] {} (Zb rfl (Xg rfl Kr (Zf (Zc 1 [] [(2,.i 4)] {} (Zb rfl (TC.ret (Zo (TE.ret [] (.i 4) {} (by unfold ZG;refine eS (fun z=>(.i z:Value)) ?_;subst hr1 hr2 hr3;exact Ze h1 (Ze h2 (Zm h3 (rfl))))))))))))
   ·refine Zc 17 [0] [(19,.i s.Code)] {} (TL.c 20 (Yd s.Code (-1) 4095) (fun r4=>.b r4) (fun w _=>XN s.Code (-1) 4095 w) {} (fun r4 hr4=>Zc 20 [] [(22,.b r4)] {} (Yy 22 r4 Kr (fun h4=>?_) (fun h4=>?_))))
    ·exact Zc 24 [] [(26,.b true)] {} (Zb rfl (Xg rfl Kr (Zf (Zc 1 [] [(2,.i 4)] {} (Zb rfl (TC.ret (Zo (TE.ret [] (.i 4) {} (by unfold ZG;refine eS (fun z=>(.i z:Value)) ?_;subst hr1 hr2 hr3 hr4;exact Ze h1 (Ze h2 (Ze h3 (Zm h4 (rfl)))))))))))))
    ·refine Zc 22 [0] [(24,.i s.Error)] {} (TL.c 25 (Yd s.Error 0 1000000) (fun r5=>.b r5) (fun w _=>XN s.Error 0 1000000 w) {} (fun r5 hr5=>Zc 24 [] [(26,.b r5)] {} (Zb rfl (TC.cond r5 rfl Kr (fun h5=>?_) (fun h5=>?_)))))
     ·exact Zf (Zc 1 [] [(2,.i 4)] {} (Zb rfl (TC.ret (Zo (TE.ret [] (.i 4) {} (by unfold ZG;refine eS (fun z=>(.i z:Value)) ?_;subst hr1 hr2 hr3 hr4 hr5;exact Ze h1 (Ze h2 (Ze h3 (Ze h4 (Zm h5 (rfl)))))))))))
     ·exact Yc (Zc 1 [] [(2,.i 0)] {} (Zb rfl (TC.ret (TE.ret [] (.i 0) {} (by unfold ZG;refine eS (fun z=>(.i z:Value)) ?_;subst hr1 hr2 hr3 hr4 hr5;exact Ze h1 (Ze h2 (Ze h3 (Ze h4 (Ze h5 (rfl))))))))))
def J3 (a:P) (b_:P):P :=
 (⟨w64 (a.X-b_.X),w64 (a.Y-b_.Y)⟩:P)
theorem HO (a:P) (b_:P) (w:World):Calls Tryz.prog 73 #[P.v a,P.v b_] w (Ret w (P.v (J3 a b_))):=by
 exact Zp (vs:=[P.v a,P.v b_]) (w:=w) Tryz.func73 rfl Tryz.ntmps73 rfl (Zf (ZA 2 (fun b1=>.p0 b1) (fun b1=>Bk b1 (P.c a) 36) (fun b1=>{}) (fun b1=>ZA 3 (fun b2=>.p0 b2) (fun b2=>Bk b2 (P.c b_) 36) (fun b2=>{}) (fun b2=>ZA 4 (fun b3=>.p0 b3) (fun b3=>Bk b3 (P.c P.zero) 36) (fun b3=>{}) (fun b3=>Zz (Zc 11 [2,1,2,1] [(15,P.v (⟨w64 (a.X-b_.X),w64 (a.Y-b_.Y)⟩:P))] {} (Yp 0 (Bk b3 (P.c (⟨w64 (a.X-b_.X),w64 (a.Y-b_.Y)⟩:P)) 36) (fun _=>{}) (Zb rfl (TC.ret (TE.ret [0] (P.v (⟨w64 (a.X-b_.X),w64 (a.Y-b_.Y)⟩:P)) {} (by unfold J3;refine eS (fun z=>(P.v z:Value)) ?_;exact rfl)))))))))))
def Jr (a:P) (b_:P):P :=
 (⟨w64 (a.X+b_.X),w64 (a.Y+b_.Y)⟩:P)
theorem HQ (a:P) (b_:P) (w:World):Calls Tryz.prog 96 #[P.v a,P.v b_] w (Ret w (P.v (Jr a b_))):=by
 exact Zp (vs:=[P.v a,P.v b_]) (w:=w) Tryz.func96 rfl Tryz.ntmps96 rfl (Zf (ZA 2 (fun b1=>.p0 b1) (fun b1=>Bk b1 (P.c a) 36) (fun b1=>{}) (fun b1=>ZA 3 (fun b2=>.p0 b2) (fun b2=>Bk b2 (P.c b_) 36) (fun b2=>{}) (fun b2=>ZA 4 (fun b3=>.p0 b3) (fun b3=>Bk b3 (P.c P.zero) 36) (fun b3=>{}) (fun b3=>Zz (Zc 11 [2,1,2,1] [(15,P.v (⟨w64 (a.X+b_.X),w64 (a.Y+b_.Y)⟩:P))] {} (Yp 0 (Bk b3 (P.c (⟨w64 (a.X+b_.X),w64 (a.Y+b_.Y)⟩:P)) 36) (fun _=>{}) (Zb rfl (TC.ret (TE.ret [0] (P.v (⟨w64 (a.X+b_.X),w64 (a.Y+b_.Y)⟩:P)) {} (by unfold Jr;refine eS (fun z=>(P.v z:Value)) ?_;exact rfl)))))))))))
def UC (a:P) (b_:P):Int :=
 w64 ((w64 (a.X*b_.X))+(w64 (a.Y*b_.Y)))
theorem Lm (a:P) (b_:P) (w:World):Calls Tryz.prog 151 #[P.v a,P.v b_] w (Ret w (.int .i64 (UC a b_))):=by
 exact Zp (vs:=[P.v a,P.v b_]) (w:=w) Tryz.func151 rfl Tryz.ntmps151 rfl (Zf (ZA 2 (fun b1=>.p0 b1) (fun b1=>Bk b1 (P.c a) 36) (fun b1=>{}) (fun b1=>ZA 3 (fun b2=>.p0 b2) (fun b2=>Bk b2 (P.c b_) 36) (fun b2=>{}) (fun b2=>Zc 3 [] [(4,.i 0)] {} (Zz (Zc 12 [1,0,1,0] [(4,.i (w64 ((w64 (a.X*b_.X))+(w64 (a.Y*b_.Y)))))] {} (Zb rfl (TC.ret (TE.ret [] (.i (w64 ((w64 (a.X*b_.X))+(w64 (a.Y*b_.Y))))) {} (by unfold UC;refine eS (fun z=>(.i z:Value)) ?_;exact rfl))))))))))
def ZN (a:P) (b_:P):Int :=
 let r1:=J3 a b_
 let r2:=UC r1 r1
 r2
theorem Ju (a:P) (b_:P) (w:World):Calls Tryz.prog 103 #[P.v a,P.v b_] w (Ret w (.int .i64 (ZN a b_))):=by
 exact Zp (vs:=[P.v a,P.v b_]) (w:=w) Tryz.func103 rfl Tryz.ntmps103 rfl (Zf (ZA 2 (fun b1=>.p0 b1) (fun b1=>Bk b1 (P.c a) 36) (fun b1=>{}) (fun b1=>ZA 3 (fun b2=>.p0 b2) (fun b2=>Bk b2 (P.c b_) 36) (fun b2=>{}) (fun b2=>Zc 3 [] [(4,.i 0)] {} (Zz (Zc 2 [1,0] [(6,P.v a),(7,P.v b_)] {} (TL.c 8 (J3 a b_) (fun r1=>P.v r1) (fun w _=>HO a b_ w) {} (fun r1 hr1=>ZA 5 (fun b3=>.p0 b3) (fun b3=>Bk b3 (P.c P.zero) 36) (fun b3=>{}) (fun b3=>Yp 0 (Bk b3 (P.c r1) 36) (fun _=>{}) (Zz (Zc 2 [0,0] [(9,P.v r1),(10,P.v r1)] {} (TL.c 11 (UC r1 r1) (fun r2=>.i r2) (fun w _=>Lm r1 r1 w) {} (fun r2 hr2=>Zc 4 [] [(4,.i r2)] {} (Zb rfl (TC.ret (TE.ret [] (.i r2) {} (by unfold ZN;refine eS (fun z=>(.i z:Value)) ?_;subst hr1 hr2;exact rfl)))))))))))))))))
def ZX (a:P) (b_:P) (d:Int):Bool :=
 cond ((decide (d≥0))&&(decide (d≤8000000))) (
  let r1:=ZN a b_
  decide (r1≤(w64 (d*d)))) (
  false)
theorem QR (a:P) (b_:P) (d:Int) (w:World):Calls Tryz.prog 48 #[P.v a,P.v b_,.int .i64 d] w (Ret w (.bool (ZX a b_ d))):=by
 refine Zp (vs:=[P.v a,P.v b_,.i d]) (w:=w) Tryz.func48 rfl Tryz.ntmps48 rfl (Zf (ZA 3 (fun b1=>.p0 b1) (fun b1=>Bk b1 (P.c a) 36) (fun b1=>{}) (fun b1=>ZA 4 (fun b2=>.p0 b2) (fun b2=>Bk b2 (P.c b_) 36) (fun b2=>{}) (fun b2=>Zc 3 [] [(6,.b false)] {} (Zz (Zc 3 [] [(9,.b (decide (d≥0)))] {} (XM 9 (decide (d≥0)) 6 [] [] (fun β=>[(12,.b (β&&(decide (d≤8000000))))]) Kr {} {} (Zc 7 [] [(13,.b ((decide (d≥0))&&(decide (d≤8000000))))] {} (Yy 13 ((decide (d≥0))&&(decide (d≤8000000))) Kr (fun h1=>?_) (fun h1=>?_))))))))))
 ·exact Zc 9 [1,0] [(14,P.v a),(15,P.v b_)] {} (TL.c 16 (ZN a b_) (fun r1=>.i r1) (fun w _=>Ju a b_ w) {} (fun r1 hr1=>Zc 16 [] [(6,.b (decide (r1≤(w64 (d*d)))))] {} (Zb rfl (TC.ret (TE.ret [] (.b (decide (r1≤(w64 (d*d))))) {} (by unfold ZX;refine eS (fun z=>(.b z:Value)) ?_;subst hr1;exact Zm h1 (rfl)))))))
 ·exact Zc 16 [] [(6,.b false)] {} (Zb rfl (TC.ret (TE.ret [] (.b false) {} (by unfold ZX;refine eS (fun z=>(.b z:Value)) ?_;exact Ze h1 (rfl)))))
def YL (a:Int) (b_:Int):Int×Int :=
 cond (b_==0) (
  (0,10)) (
  cond ((a==(-9223372036854775808))&&(b_==(-1))) (
   (0,2)) (
   cond (((a.tmod b_) != 0)&&(!((decide (a<0))==(decide (b_<0))))) (
    (w64 ((w64 (a.tdiv b_))-1),0)) (
    (w64 (a.tdiv b_),0))))
theorem KT (a:Int) (b_:Int) (w:World):Calls Tryz.prog 124 #[.int .i64 a,.int .i64 b_] w (Ret w (.tuple #[.int .i64 ((YL a b_).1),.int .i64 ((YL a b_).2)])):=by
 refine Zp (vs:=[.i a,.i b_]) (w:=w) Tryz.func124 rfl Tryz.ntmps124 rfl (Zf (Zc 2 [] [(4,.i 0),(5,.i 0)] {} (Z1 (TC.block (Zf (Zc 3 [] [(7,.b (b_==0))] {} (Zb rfl (TC.cond (b_==0) rfl Kr (fun h1=>?_) (fun h1=>?_)))))))))
 ·refine Zf (Zc 2 [] [(4,.i 0),(5,.i 10)] {} (Zb rfl (TC.ret (ZL (Zo ?_)))))
  exact TE.ret [] (.tuple #[.i 0,.i 10]) {} (by unfold YL;refine eS (a:=(0,10)) (fun (z:Int×Int)=>(.tuple #[.i z.1,.i z.2]:Value)) ?_;exact Zm h1 (rfl))
 ·have vm:=(Yl h1)
  refine Zf (Zc 3 [] [(13,.b (a==(-9223372036854775808)))] {} (XM 13 (a==(-9223372036854775808)) 6 [] [] (fun β=>[(16,.b (β&&(b_==(-1))))]) Kr {} {} (Zc 7 [] [(10,.b ((a==(-9223372036854775808))&&(b_==(-1))))] {} (Zb rfl (TC.cond ((a==(-9223372036854775808))&&(b_==(-1))) rfl Kr (fun h2=>?_) (fun h2=>?_))))))
  ·refine Zf (Zc 2 [] [(4,.i 0),(5,.i 2)] {} (Zb rfl (TC.ret (ZL (Zo ?_)))))
   exact TE.ret [] (.tuple #[.i 0,.i 2]) {} (by unfold YL;refine eS (a:=(0,2)) (fun (z:Int×Int)=>(.tuple #[.i z.1,.i z.2]:Value)) ?_;exact Ze h1 (Zm h2 (rfl)))
  ·have k9:=((Qr h2).imp (fun h=>(Yl h)) (fun h=>(Yl h)))
   refine TC.skip (ZY (YC (Zc 2 [] [(17,.i a),(18,.i b_)] {} (TL.v (sV (binOp .quo 3 (.i a) (.i b_))) 19 (.i (w64 (a.tdiv b_))) (fun w hM=>Ta sdr) {} (Zc 4 [] [(6,.i (w64 (a.tdiv b_)))] {} (Z1 (Zf (Zc 2 [] [(20,.i a),(21,.i b_)] {} (TL.v (sV (binOp .rem 3 (.i a) (.i b_))) 22 (.i (a.tmod b_)) (fun w hM=>Bq sdr) {} (Zc 5 [] [(24,.b ((a.tmod b_) != 0))] {} (XM 24 ((a.tmod b_) != 0) 11 [] [] (fun β=>[(30,.b (β&&(!((decide (a<0))==(decide (b_<0))))))]) Kr {} {} (Zb rfl (TC.cond (((a.tmod b_) != 0)&&(!((decide (a<0))==(decide (b_<0))))) rfl Kr (fun h3=>?_) (fun h3=>?_))))))))))))))
   ·exact TC.region (Zc 3 [] [(6,.i (w64 ((w64 (a.tdiv b_))-1)))] {} (Zz (Zc 3 [] [(4,.i (w64 ((w64 (a.tdiv b_))-1))),(5,.i 0)] {} (Zb rfl (TC.ret (TE.ret [] (.tuple #[.i (w64 ((w64 (a.tdiv b_))-1)),.i 0]) {} (by unfold YL;refine eS (a:=(w64 ((w64 (a.tdiv b_))-1),0)) (fun (z:Int×Int)=>(.tuple #[.i z.1,.i z.2]:Value)) ?_;exact Ze h1 (Ze h2 (Zm h3 (rfl))))))))))
   ·exact Yc (Zc 3 [] [(4,.i (w64 (a.tdiv b_))),(5,.i 0)] {} (Zb rfl (TC.ret (TE.ret [] (.tuple #[.i (w64 (a.tdiv b_)),.i 0]) {} (by unfold YL;refine eS (a:=(w64 (a.tdiv b_),0)) (fun (z:Int×Int)=>(.tuple #[.i z.1,.i z.2]:Value)) ?_;exact Ze h1 (Ze h2 (Ze h3 (rfl))))))))
def X1 (a:Int) (b_:Int):Int×Int :=
 let r1:=YL a b_
 cond (r1.2==0) (
  cond ((a.tmod b_) != 0) (
   (w64 (r1.1+1),r1.2)) (
   (r1.1,r1.2))) (
  (r1.1,r1.2))
theorem PK {a b:Int} {r:Int×Int} (hr:YL a b=r) (h:(r.2==0)=true):b≠0:=by
 rintro rfl;subst hr;revert h;simp[YL]
theorem KB (a:Int) (b_:Int) (w:World):Calls Tryz.prog 125 #[.int .i64 a,.int .i64 b_] w (Ret w (.tuple #[.int .i64 ((X1 a b_).1),.int .i64 ((X1 a b_).2)])):=by
 refine Zp (vs:=[.i a,.i b_]) (w:=w) Tryz.func125 rfl Tryz.ntmps125 rfl (Zf (Zc 2 [] [(4,.i 0),(5,.i 0)] {} (Zz (Zc 2 [] [(9,.i a),(10,.i b_)] {} (TL.c 11 (YL a b_) (fun r1=>.tuple #[.i r1.1,.i r1.2]) (fun w _=>KT a b_ w) {} (fun r1 hr1=>Zc 8 [] [(6,.i r1.1),(7,.i r1.2)] {} (Z1 (Zf (Zc 3 [] [(16,.b (r1.2==0))] {} (Yy 16 (r1.2==0) Kr (fun h1=>?_) (fun h1=>?_)))))))))))
 ·refine Zc 5 [] [(17,.i a),(18,.i b_)] {} (TL.v (sV (binOp .rem 3 (.i a) (.i b_))) 19 (.i (a.tmod b_)) (fun w hM=>Bq (PK hr1 h1)) {} (Zc 8 [] [(21,.b ((a.tmod b_) != 0))] {} (Zb rfl (TC.cond ((a.tmod b_) != 0) rfl Kr (fun h2=>?_) (fun h2=>?_)))))
  ·exact TC.region (Zc 3 [] [(6,.i (w64 (r1.1+1)))] {} (Zz (Zc 4 [] [(4,.i (w64 (r1.1+1))),(5,.i r1.2)] {} (Zb rfl (TC.ret (TE.ret [] (.tuple #[.i (w64 (r1.1+1)),.i r1.2]) {} (by unfold X1;refine eS (a:=(w64 (r1.1+1),r1.2)) (fun (z:Int×Int)=>(.tuple #[.i z.1,.i z.2]:Value)) ?_;subst hr1;exact Zm h1 (Zm h2 (rfl)))))))))
  ·exact Yc (Zc 4 [] [(4,.i r1.1),(5,.i r1.2)] {} (Zb rfl (TC.ret (TE.ret [] (.tuple #[.i r1.1,.i r1.2]) {} (by unfold X1;refine eS (a:=(r1.1,r1.2)) (fun (z:Int×Int)=>(.tuple #[.i z.1,.i z.2]:Value)) ?_;subst hr1;exact Zm h1 (Ze h2 (rfl)))))))
 ·exact Zc 8 [] [(21,.b false)] {} (Zb rfl (J1 rfl Kr (Yc (Zc 4 [] [(4,.i r1.1),(5,.i r1.2)] {} (Zb rfl (TC.ret (TE.ret [] (.tuple #[.i r1.1,.i r1.2]) {} (by unfold X1;refine eS (a:=(r1.1,r1.2)) (fun (z:Int×Int)=>(.tuple #[.i z.1,.i z.2]:Value)) ?_;subst hr1;exact Ze h1 (rfl)))))))))
def XY (n:Int) (low:Int) (high:Int):Int :=
 cond ((decide (n<low))||(decide (low>high))) (
  low) (
  cond (decide (n>high)) (
   high) (
   n))
theorem Wn (n:Int) (low:Int) (high:Int) (w:World):Calls Tryz.prog 100 #[.int .i64 n,.int .i64 low,.int .i64 high] w (Ret w (.int .i64 (XY n low high))):=by
 refine Zp (vs:=[.i n,.i low,.i high]) (w:=w) Tryz.func100 rfl Tryz.ntmps100 rfl (Zf (Zc 1 [] [(6,.i 0)] {} (Z1 (TC.block (Zf (Zc 4 [] [(11,.b (decide (n<low)))] {} (XM 11 (decide (n<low)) 8 [] [] (fun β=>[(15,.b (β||(decide (low>high))))]) Kr {} {} (Zc 9 [] [(7,.b ((decide (n<low))||(decide (low>high))))] {} (Zb rfl (TC.cond ((decide (n<low))||(decide (low>high))) rfl Kr (fun h1=>?_) (fun h1=>?_)))))))))))
 ·refine Zf (Zc 2 [] [(6,.i low)] {} (Zb rfl (TC.ret (ZL (Zo ?_)))))
  exact TE.ret [] (.i low) {} (by unfold XY;refine eS (fun z=>(.i z:Value)) ?_;exact Zm h1 (rfl))
 ·refine Zf (Zc 4 [] [(17,.b (decide (n>high)))] {} (Zb rfl (TC.cond (decide (n>high)) rfl Kr (fun h2=>?_) (fun h2=>?_))))
  ·refine Zf (Zc 2 [] [(6,.i high)] {} (Zb rfl (TC.ret (ZL (Zo ?_)))))
   exact TE.ret [] (.i high) {} (by unfold XY;refine eS (fun z=>(.i z:Value)) ?_;exact Ze h1 (Zm h2 (rfl)))
  ·exact TC.skip (ZY (YC (Zc 2 [] [(6,.i n)] {} (Zb rfl (TC.ret (TE.ret [] (.i n) {} (by unfold XY;refine eS (fun z=>(.i z:Value)) ?_;exact Ze h1 (Ze h2 (rfl)))))))))
def Yt (t:Track):Int :=
 let r1:=ZG (⟨t.Time,t.At,t.Height,t.Code,0⟩:Zj)
 cond (((r1 != 0)||(decide (t.Radius<0)))||(decide (t.Radius>4000000))) (
  4) (
  0)
theorem K5 (t:Track) (w:World):Calls Tryz.prog 102 #[Track.v t] w (Ret w (.int .i64 (Yt t))):=by
 refine Zp (vs:=[Track.v t]) (w:=w) Tryz.func102 rfl Tryz.ntmps102 rfl (Zf (ZA 1 (fun b1=>.p0 b1) (fun b1=>Bk b1 (Track.c t) 40) (fun b1=>{}) (fun b1=>Zc 2 [] [(2,.i 0)] {} (Z1 (Zf (Zc 9 [0,0,0,0] [(11,Zj.v (⟨t.Time,t.At,t.Height,t.Code,0⟩:Zj))] {} (TL.c 12 (ZG (⟨t.Time,t.At,t.Height,t.Code,0⟩:Zj)) (fun r1=>.i r1) (fun w _=>XX (⟨t.Time,t.At,t.Height,t.Code,0⟩:Zj) w) {} (fun r1 hr1=>Zc 12 [] [(14,.b (r1 != 0))] {} (XM 14 (r1 != 0) 16 [] [0] (fun β=>[(18,.b (β||(decide (t.Radius<0))))]) Kr {} {} (Zc 17 [] [(19,.b ((r1 != 0)||(decide (t.Radius<0))))] {} (XM 19 ((r1 != 0)||(decide (t.Radius<0))) 21 [] [0] (fun β=>[(23,.b (β||(decide (t.Radius>4000000))))]) Kr {} {} (Zb rfl (TC.cond (((r1 != 0)||(decide (t.Radius<0)))||(decide (t.Radius>4000000))) rfl Kr (fun h1=>?_) (fun h1=>?_))))))))))))))
 ·exact Zf (Zc 1 [] [(2,.i 4)] {} (Zb rfl (TC.ret (Zo (TE.ret [] (.i 4) {} (by unfold Yt;refine eS (fun z=>(.i z:Value)) ?_;subst hr1;exact Zm h1 (rfl)))))))
 ·exact Yc (Zc 1 [] [(2,.i 0)] {} (Zb rfl (TC.ret (TE.ret [] (.i 0) {} (by unfold Yt;refine eS (fun z=>(.i z:Value)) ?_;subst hr1;exact Ze h1 (rfl))))))
def Jv (slack:Int) (qg:Int) (zy:Int):Int×Int :=
 cond ((((decide (slack<0))||(decide (slack>409600)))||(decide (qg<0)))||(decide (qg>20))) (
  (0,4)) (
  cond ((decide (zy<0))||(decide (zy>600))) (
   (0,12)) (
   cond (zy==0) (
    (0,0)) (
    let r1:=X1 (w64 (slack*zy)) 16
    let r2:=X1 (w64 ((w64 (qg*zy))*zy)) 2
    (w64 ((w64 (r1.1+r2.1))+2),0))))
theorem Ny (slack:Int) (qg:Int) (zy:Int) (w:World):Calls Tryz.prog 101 #[.int .i64 slack,.int .i64 qg,.int .i64 zy] w (Ret w (.tuple #[.int .i64 ((Jv slack qg zy).1),.int .i64 ((Jv slack qg zy).2)])):=by
 refine Zp (vs:=[.i slack,.i qg,.i zy]) (w:=w) Tryz.func101 rfl Tryz.ntmps101 rfl (Zf (Zc 2 [] [(6,.i 0),(7,.i 0)] {} (Z1 (TC.block (Zf (Zc 3 [] [(15,.b (decide (slack<0)))] {} (XM 15 (decide (slack<0)) 6 [] [] (fun β=>[(18,.b (β||(decide (slack>409600))))]) Kr {} {} (Zc 7 [] [(19,.b ((decide (slack<0))||(decide (slack>409600))))] {} (XM 19 ((decide (slack<0))||(decide (slack>409600))) 10 [] [] (fun β=>[(22,.b (β||(decide (qg<0))))]) Kr {} {} (Zc 11 [] [(23,.b (((decide (slack<0))||(decide (slack>409600)))||(decide (qg<0))))] {} (XM 23 (((decide (slack<0))||(decide (slack>409600)))||(decide (qg<0))) 14 [] [] (fun β=>[(26,.b (β||(decide (qg>20))))]) Kr {} {} (Zc 15 [] [(12,.b ((((decide (slack<0))||(decide (slack>409600)))||(decide (qg<0)))||(decide (qg>20))))] {} (Zb rfl (TC.cond ((((decide (slack<0))||(decide (slack>409600)))||(decide (qg<0)))||(decide (qg>20))) rfl Kr (fun h1=>?_) (fun h1=>?_)))))))))))))))
 ·refine Zf (Zc 2 [] [(6,.i 0),(7,.i 4)] {} (Zb rfl (TC.ret (ZL (Zo ?_)))))
  exact TE.ret [] (.tuple #[.i 0,.i 4]) {} (by unfold Jv;refine eS (a:=(0,4)) (fun (z:Int×Int)=>(.tuple #[.i z.1,.i z.2]:Value)) ?_;exact Zm h1 (rfl))
 ·refine Zf (Zc 3 [] [(30,.b (decide (zy<0)))] {} (XM 30 (decide (zy<0)) 6 [] [] (fun β=>[(33,.b (β||(decide (zy>600))))]) Kr {} {} (Zc 7 [] [(27,.b ((decide (zy<0))||(decide (zy>600))))] {} (Zb rfl (TC.cond ((decide (zy<0))||(decide (zy>600))) rfl Kr (fun h2=>?_) (fun h2=>?_))))))
  ·refine Zf (Zc 2 [] [(6,.i 0),(7,.i 12)] {} (Zb rfl (TC.ret (ZL (Zo ?_)))))
   exact TE.ret [] (.tuple #[.i 0,.i 12]) {} (by unfold Jv;refine eS (a:=(0,12)) (fun (z:Int×Int)=>(.tuple #[.i z.1,.i z.2]:Value)) ?_;exact Ze h1 (Zm h2 (rfl)))
  ·refine Zf (Zc 3 [] [(34,.b (zy==0))] {} (Zb rfl (TC.cond (zy==0) rfl Kr (fun h3=>?_) (fun h3=>?_))))
   ·refine Zf (Zc 2 [] [(6,.i 0),(7,.i 0)] {} (Zb rfl (TC.ret (ZL (Zo ?_)))))
    exact TE.ret [] (.tuple #[.i 0,.i 0]) {} (by unfold Jv;refine eS (a:=(0,0)) (fun (z:Int×Int)=>(.tuple #[.i z.1,.i z.2]:Value)) ?_;exact Ze h1 (Ze h2 (Zm h3 (rfl))))
   ·exact TC.skip (ZY (YC (Zc 3 [] [(40,.i (w64 (slack*zy)))] {} (TL.c 41 (X1 (w64 (slack*zy)) 16) (fun r1=>.tuple #[.i r1.1,.i r1.2]) (fun w _=>KB (w64 (slack*zy)) 16 w) {} (fun r1 hr1=>Zc 9 [] [(8,.i r1.1)] {} (Zz (Zc 5 [] [(49,.i (w64 ((w64 (qg*zy))*zy)))] {} (TL.c 50 (X1 (w64 ((w64 (qg*zy))*zy)) 2) (fun r2=>.tuple #[.i r2.1,.i r2.2]) (fun w _=>KB (w64 ((w64 (qg*zy))*zy)) 2 w) {} (fun r2 hr2=>Zc 11 [] [(10,.i r2.1)] {} (Zz (Zc 6 [] [(6,.i (w64 ((w64 (r1.1+r2.1))+2))),(7,.i 0)] {} (Zb rfl (TC.ret (TE.ret [] (.tuple #[.i (w64 ((w64 (r1.1+r2.1))+2)),.i 0]) {} (by unfold Jv;refine eS (a:=(w64 ((w64 (r1.1+r2.1))+2),0)) (fun (z:Int×Int)=>(.tuple #[.i z.1,.i z.2]:Value)) ?_;subst hr1 hr2;exact Ze h1 (Ze h2 (Ze h3 (rfl))))))))))))))))))
def Yw (n:Int) (low:Int) (high:Int):Bool :=
 (decide (n<low))||(decide (n>high))
theorem QN (n:Int) (low:Int) (high:Int) (w:World):Calls Tryz.prog 98 #[.int .i64 n,.int .i64 low,.int .i64 high] w (Ret w (.bool (Yw n low high))):=by
 exact Zp (vs:=[.i n,.i low,.i high]) (w:=w) Tryz.func98 rfl Tryz.ntmps98 rfl (Zf (Zc 1 [] [(6,.b false)] {} (Zz (Zc 4 [] [(10,.b (decide (n<low)))] {} (XM 10 (decide (n<low)) 8 [] [] (fun β=>[(14,.b (β||(decide (n>high))))]) Kr {} {} (Zc 9 [] [(6,.b ((decide (n<low))||(decide (n>high))))] {} (Zb rfl (TC.ret (TE.ret [] (.b ((decide (n<low))||(decide (n>high)))) {} (by unfold Yw;refine eS (fun z=>(.b z:Value)) ?_;exact rfl))))))))))
def ZP (f:Za):Int :=
 let r1:=Yt f.Track
 cond (r1 != 0) (
  r1) (
  let r2:=Yw f.Track.Speed.X (-12800) 12800
  cond r2 (
   4) (
   let r3:=Yw f.Track.Speed.Y (-12800) 12800
   cond r3 (
    4) (
    let r4:=Yw f.Track.Rate (-3200) 3200
    cond r4 (
     4) (
     let r5:=Yw f.Slack 0 409600
     cond (((r5||(decide (f.Track.ID<0)))||(decide (f.Track.Hits<0)))||(decide (f.Track.Misses<0))) (
      4) (
      let r6:=Yw f.Track.State 0 2
      cond r6 (
       1) (
       let r7:=ZG f.Last
       cond (r7 != 0) (
        r7) (
        cond (decide (f.Last.Time>f.Track.Time)) (
         12) (
         0))))))))
set_option maxHeartbeats 4000000 in
theorem QS (f:Za) (w:World):Calls Tryz.prog 46 #[Za.v f] w (Ret w (.int .i64 (ZP f))):=by
 refine Zp (vs:=[Za.v f]) (w:=w) Tryz.func46 rfl Tryz.ntmps46 rfl (Zf (ZA 1 (fun b1=>.p0 b1) (fun b1=>Bk b1 (Za.c f) 44) (fun b1=>{}) (fun b1=>Zc 2 [] [(2,.i 0)] {} (Zz (Zc 2 [0] [(7,Track.v f.Track)] {} (ZA 3 (fun b2=>.p0 b2) (fun b2=>Bk b2 (Track.c Track.zero) 40) (fun b2=>{}) (fun b2=>Yp 0 (Bk b2 (Track.c f.Track) 40) (fun _=>{}) (Z1 (Zf (Zc 1 [0] [(8,Track.v f.Track)] {} (TL.c 9 (Yt f.Track) (fun r1=>.i r1) (fun w _=>K5 f.Track w) {} (fun r1 hr1=>Zc 3 [] [(4,.i r1)] {} (Zz (Zc 2 [] [(11,.b (r1 != 0))] {} (Zb rfl (TC.cond (r1 != 0) rfl Kr (fun h1=>?_) (fun h1=>?_)))))))))))))))))
 ·exact Zf (Zc 2 [] [(2,.i r1)] {} (Zb rfl (TC.ret (Zo (TE.ret [] (.i r1) {} (by unfold ZP;refine eS (fun z=>(.i z:Value)) ?_;subst hr1;exact Zm h1 (rfl)))))))
 ·refine Yg (TC.seq (Zf (Zc 3 [0] [(15,.i f.Track.Speed.X)] {} (TL.c 16 (Yw f.Track.Speed.X (-12800) 12800) (fun r2=>.b r2) (fun w _=>QN f.Track.Speed.X (-12800) 12800 w) {} (fun r2 hr2=>Zc 5 [] [(17,.b r2)] {} (Yy 17 r2 Kr (fun h2=>?_) (fun h2=>?_)))))))
  ·exact Zc 35 [] [(47,.b true)] {} (Zb rfl (Xg rfl Kr (Zf (Zc 1 [] [(2,.i 4)] {} (Zb rfl (TC.ret (Zo (TE.ret [] (.i 4) {} (by unfold ZP;refine eS (fun z=>(.i z:Value)) ?_;subst hr1 hr2;exact Ze h1 (Zm h2 (rfl)))))))))))
  ·refine Zc 8 [0] [(20,.i f.Track.Speed.Y)] {} (TL.c 21 (Yw f.Track.Speed.Y (-12800) 12800) (fun r3=>.b r3) (fun w _=>QN f.Track.Speed.Y (-12800) 12800 w) {} (fun r3 hr3=>Zc 11 [] [(23,.b r3)] {} (Yy 23 r3 Kr (fun h3=>?_) (fun h3=>?_))))
   ·exact Zc 35 [] [(47,.b true)] {} (Zb rfl (Xg rfl Kr (Zf (Zc 1 [] [(2,.i 4)] {} (Zb rfl (TC.ret (Zo (TE.ret [] (.i 4) {} (by unfold ZP;refine eS (fun z=>(.i z:Value)) ?_;subst hr1 hr2 hr3;exact Ze h1 (Ze h2 (Zm h3 (rfl))))))))))))
   ·refine Zc 13 [0] [(25,.i f.Track.Rate)] {} (TL.c 26 (Yw f.Track.Rate (-3200) 3200) (fun r4=>.b r4) (fun w _=>QN f.Track.Rate (-3200) 3200 w) {} (fun r4 hr4=>Zc 16 [] [(28,.b r4)] {} (Yy 28 r4 Kr (fun h4=>?_) (fun h4=>?_))))
    ·exact Zc 35 [] [(47,.b true)] {} (Zb rfl (Xg rfl Kr (Zf (Zc 1 [] [(2,.i 4)] {} (Zb rfl (TC.ret (Zo (TE.ret [] (.i 4) {} (by unfold ZP;refine eS (fun z=>(.i z:Value)) ?_;subst hr1 hr2 hr3 hr4;exact Ze h1 (Ze h2 (Ze h3 (Zm h4 (rfl)))))))))))))
    ·refine Zc 18 [1] [(30,.i f.Slack)] {} (TL.c 31 (Yw f.Slack 0 409600) (fun r5=>.b r5) (fun w _=>QN f.Slack 0 409600 w) {} (fun r5 hr5=>Zc 21 [] [(33,.b r5)] {} (XM 33 r5 25 [] [0] (fun β=>[(37,.b (β||(decide (f.Track.ID<0))))]) Kr {} {} (Zc 26 [] [(38,.b (r5||(decide (f.Track.ID<0))))] {} (XM 38 (r5||(decide (f.Track.ID<0))) 30 [] [0] (fun β=>[(42,.b (β||(decide (f.Track.Hits<0))))]) Kr {} {} (Zc 31 [] [(43,.b ((r5||(decide (f.Track.ID<0)))||(decide (f.Track.Hits<0))))] {} (XM 43 ((r5||(decide (f.Track.ID<0)))||(decide (f.Track.Hits<0))) 35 [] [0] (fun β=>[(47,.b (β||(decide (f.Track.Misses<0))))]) Kr {} {} (Zb rfl (TC.cond (((r5||(decide (f.Track.ID<0)))||(decide (f.Track.Hits<0)))||(decide (f.Track.Misses<0))) rfl Kr (fun h5=>?_) (fun h5=>?_))))))))))
     ·exact Zf (Zc 1 [] [(2,.i 4)] {} (Zb rfl (TC.ret (Zo (TE.ret [] (.i 4) {} (by unfold ZP;refine eS (fun z=>(.i z:Value)) ?_;subst hr1 hr2 hr3 hr4 hr5;exact Ze h1 (Ze h2 (Ze h3 (Ze h4 (Zm h5 (rfl)))))))))))
     ·refine Yg (TC.seq (Zf (Zc 2 [0] [(49,.i f.Track.State)] {} (TL.c 50 (Yw f.Track.State 0 2) (fun r6=>.b r6) (fun w _=>QN f.Track.State 0 2 w) {} (fun r6 hr6=>Zb rfl (TC.cond r6 rfl Kr (fun h6=>?_) (fun h6=>?_)))))))
      ·exact Zf (Zc 1 [] [(2,.i 1)] {} (Zb rfl (TC.ret (Zo (TE.ret [] (.i 1) {} (by unfold ZP;refine eS (fun z=>(.i z:Value)) ?_;subst hr1 hr2 hr3 hr4 hr5 hr6;exact Ze h1 (Ze h2 (Ze h3 (Ze h4 (Ze h5 (Zm h6 (rfl))))))))))))
      ·refine Yg (TC.seq (Zf (Zc 2 [1] [(52,Zj.v f.Last)] {} (TL.c 53 (ZG f.Last) (fun r7=>.i r7) (fun w _=>XX f.Last w) {} (fun r7 hr7=>Zc 4 [] [(5,.i r7)] {} (Zz (Zc 2 [] [(55,.b (r7 != 0))] {} (Zb rfl (TC.cond (r7 != 0) rfl Kr (fun h7=>?_) (fun h7=>?_))))))))))
       ·exact Zf (Zc 2 [] [(2,.i r7)] {} (Zb rfl (TC.ret (Zo (TE.ret [] (.i r7) {} (by unfold ZP;refine eS (fun z=>(.i z:Value)) ?_;subst hr1 hr2 hr3 hr4 hr5 hr6 hr7;exact Ze h1 (Ze h2 (Ze h3 (Ze h4 (Ze h5 (Ze h6 (Zm h7 (rfl)))))))))))))
       ·refine Yg (TC.seq (Zf (Zc 6 [1,0] [(62,.b (decide (f.Last.Time>f.Track.Time)))] {} (Zb rfl (TC.cond (decide (f.Last.Time>f.Track.Time)) rfl Kr (fun h8=>?_) (fun h8=>?_))))))
        ·exact Zf (Zc 1 [] [(2,.i 12)] {} (Zb rfl (TC.ret (Zo (TE.ret [] (.i 12) {} (by unfold ZP;refine eS (fun z=>(.i z:Value)) ?_;subst hr1 hr2 hr3 hr4 hr5 hr6 hr7;exact Ze h1 (Ze h2 (Ze h3 (Ze h4 (Ze h5 (Ze h6 (Ze h7 (Zm h8 (rfl))))))))))))))
        ·exact Yc (Zc 1 [] [(2,.i 0)] {} (Zb rfl (TC.ret (TE.ret [] (.i 0) {} (by unfold ZP;refine eS (fun z=>(.i z:Value)) ?_;subst hr1 hr2 hr3 hr4 hr5 hr6 hr7;exact Ze h1 (Ze h2 (Ze h3 (Ze h4 (Ze h5 (Ze h6 (Ze h7 (Ze h8 (rfl)))))))))))))
def Y8 (s:Zj):Za×Int :=
 let r1:=ZG s
 cond (r1 != 0) (
  ((⟨⟨0,0,0,⟨0,0⟩,⟨0,0⟩,0,0,0,0,0,0⟩,0,⟨0,⟨0,0⟩,0,0,0⟩⟩:Za),r1)) (
  ((⟨⟨0,0,s.Time,s.At,⟨0,0⟩,s.Height,0,s.Error,s.Code,1,0⟩,6400,s⟩:Za),0))
theorem BN (s:Zj) (w:World):Calls Tryz.prog 56 #[Zj.v s] w (Ret w (.tuple #[Za.v ((Y8 s).1),.int .i64 ((Y8 s).2)])):=by
 refine Zp (vs:=[Zj.v s]) (w:=w) Tryz.func56 rfl Tryz.ntmps56 rfl (Zf (ZA 1 (fun b1=>.p0 b1) (fun b1=>Bk b1 (Zj.c s) 42) (fun b1=>{}) (fun b1=>ZA 2 (fun b2=>.p0 b2) (fun b2=>Bk b2 (Za.c Za.zero) 44) (fun b2=>{}) (fun b2=>Zc 3 [] [(3,.i 0)] {} (Z1 (Zf (Zc 1 [1] [(5,Zj.v s)] {} (TL.c 6 (ZG s) (fun r1=>.i r1) (fun w _=>XX s w) {} (fun r1 hr1=>Zc 3 [] [(4,.i r1)] {} (Zz (Zc 2 [] [(8,.b (r1 != 0))] {} (Zb rfl (TC.cond (r1 != 0) rfl Kr (fun h1=>?_) (fun h1=>?_))))))))))))))
 ·exact Zf (Zc 2 [] [(9,Za.v Za.zero),(10,.i r1)] {} (Yp 0 (Bk b2 (Za.c Za.zero) 44) (fun _=>{}) (Zc 4 [] [(3,.i r1)] {} (Zb rfl (TC.ret (Zo (TE.ret [0] (.tuple #[Za.v (⟨⟨0,0,0,⟨0,0⟩,⟨0,0⟩,0,0,0,0,0,0⟩,0,⟨0,⟨0,0⟩,0,0,0⟩⟩:Za),.i r1]) {} (by unfold Y8;refine eS (a:=((⟨⟨0,0,0,⟨0,0⟩,⟨0,0⟩,0,0,0,0,0,0⟩,0,⟨0,⟨0,0⟩,0,0,0⟩⟩:Za),r1)) (fun (z:Za×Int)=>(.tuple #[Za.v z.1,.i z.2]:Value)) ?_;subst hr1;exact Zm h1 (rfl)))))))))
 ·exact Yc (Zc 13 [1,1,1,1,1,1] [(23,Za.v (⟨⟨0,0,s.Time,s.At,⟨0,0⟩,s.Height,0,s.Error,s.Code,1,0⟩,6400,s⟩:Za))] {} (Yp 0 (Bk b2 (Za.c (⟨⟨0,0,s.Time,s.At,⟨0,0⟩,s.Height,0,s.Error,s.Code,1,0⟩,6400,s⟩:Za)) 44) (fun _=>{}) (Zc 15 [] [(3,.i 0)] {} (Zb rfl (TC.ret (TE.ret [0] (.tuple #[Za.v (⟨⟨0,0,s.Time,s.At,⟨0,0⟩,s.Height,0,s.Error,s.Code,1,0⟩,6400,s⟩:Za),.i 0]) {} (by unfold Y8;refine eS (a:=((⟨⟨0,0,s.Time,s.At,⟨0,0⟩,s.Height,0,s.Error,s.Code,1,0⟩,6400,s⟩:Za),0)) (fun (z:Za×Int)=>(.tuple #[Za.v z.1,.i z.2]:Value)) ?_;subst hr1;exact Ze h1 (rfl))))))))
def Yu (a:Int) (b_:Int):Int :=
 let r1:=YL a b_
 r1.1
theorem JJ (a:Int) (b_:Int) (w:World):Calls Tryz.prog 99 #[.int .i64 a,.int .i64 b_] w (Ret w (.int .i64 (Yu a b_))):=by
 exact Zp (vs:=[.i a,.i b_]) (w:=w) Tryz.func99 rfl Tryz.ntmps99 rfl (Zf (Zc 1 [] [(4,.i 0)] {} (Zz (Zc 2 [] [(8,.i a),(9,.i b_)] {} (TL.c 10 (YL a b_) (fun r1=>.tuple #[.i r1.1,.i r1.2]) (fun w _=>KT a b_ w) {} (fun r1 hr1=>Zc 8 [] [(5,.i r1.1)] {} (Zz (Zc 2 [] [(4,.i r1.1)] {} (Zb rfl (TC.ret (TE.ret [] (.i r1.1) {} (by unfold Yu;refine eS (fun z=>(.i z:Value)) ?_;subst hr1;exact rfl))))))))))))
def Ja (a:Int) (b_:Int):Int :=
 let r1:=X1 a b_
 r1.1
theorem Gz (a:Int) (b_:Int) (w:World):Calls Tryz.prog 112 #[.int .i64 a,.int .i64 b_] w (Ret w (.int .i64 (Ja a b_))):=by
 exact Zp (vs:=[.i a,.i b_]) (w:=w) Tryz.func112 rfl Tryz.ntmps112 rfl (Zf (Zc 1 [] [(4,.i 0)] {} (Zz (Zc 2 [] [(8,.i a),(9,.i b_)] {} (TL.c 10 (X1 a b_) (fun r1=>.tuple #[.i r1.1,.i r1.2]) (fun w _=>KB a b_ w) {} (fun r1 hr1=>Zc 8 [] [(5,.i r1.1)] {} (Zz (Zc 2 [] [(4,.i r1.1)] {} (Zb rfl (TC.ret (TE.ret [] (.i r1.1) {} (by unfold Ja;refine eS (fun z=>(.i z:Value)) ?_;subst hr1;exact rfl))))))))))))
def Z5 (f:Za) (time:Int) (qg:Int):Za×Int :=
 let r1:=ZP f
 cond (r1 != 0) (
  ((⟨⟨0,0,0,⟨0,0⟩,⟨0,0⟩,0,0,0,0,0,0⟩,0,⟨0,⟨0,0⟩,0,0,0⟩⟩:Za),r1)) (
  let r2:=Yw time 0 200000
  cond r2 (
   ((⟨⟨0,0,0,⟨0,0⟩,⟨0,0⟩,0,0,0,0,0,0⟩,0,⟨0,⟨0,0⟩,0,0,0⟩⟩:Za),4)) (
   let r3:=Yw qg 0 20
   cond r3 (
    ((⟨⟨0,0,0,⟨0,0⟩,⟨0,0⟩,0,0,0,0,0,0⟩,0,⟨0,⟨0,0⟩,0,0,0⟩⟩:Za),4)) (
    let r4:=Yw (w64 (time-f.Track.Time)) 0 600
    cond r4 (
     ((⟨⟨0,0,0,⟨0,0⟩,⟨0,0⟩,0,0,0,0,0,0⟩,0,⟨0,⟨0,0⟩,0,0,0⟩⟩:Za),12)) (
     cond ((w64 (time-f.Track.Time))==0) (
      (f,0)) (
      let r5:=Yu (w64 (f.Track.Speed.X*(w64 (time-f.Track.Time)))) 16
      let r6:=Yu (w64 (f.Track.Speed.Y*(w64 (time-f.Track.Time)))) 16
      let r7:=Jr f.Track.At (⟨r5,r6⟩:P)
      let r8:=Yu (w64 (f.Track.Rate*(w64 (time-f.Track.Time)))) 16
      let r9:=XY (w64 (f.Track.Height+r8)) 0 60000
      let r10:=Jv f.Slack qg (w64 (time-f.Track.Time))
      let r11:=ZP (⟨⟨f.Track.ID,f.Track.State,time,r7,f.Track.Speed,r9,f.Track.Rate,w64 (f.Track.Radius+r10.1),f.Track.Code,f.Track.Hits,f.Track.Misses⟩,w64 (f.Slack+(w64 ((w64 (16*qg))*(w64 (time-f.Track.Time))))),f.Last⟩:Za)
      cond (r11 != 0) (
       ((⟨⟨0,0,0,⟨0,0⟩,⟨0,0⟩,0,0,0,0,0,0⟩,0,⟨0,⟨0,0⟩,0,0,0⟩⟩:Za),8)) (
       ((⟨⟨f.Track.ID,f.Track.State,time,r7,f.Track.Speed,r9,f.Track.Rate,w64 (f.Track.Radius+r10.1),f.Track.Code,f.Track.Hits,f.Track.Misses⟩,w64 (f.Slack+(w64 ((w64 (16*qg))*(w64 (time-f.Track.Time))))),f.Last⟩:Za),0)))))))
set_option maxHeartbeats 4000000 in
theorem Vy (f:Za) (time:Int) (qg:Int) (w:World):Calls Tryz.prog 45 #[Za.v f,.int .i64 time,.int .i64 qg] w (Ret w (.tuple #[Za.v ((Z5 f time qg).1),.int .i64 ((Z5 f time qg).2)])):=by
 refine Zp (vs:=[Za.v f,.i time,.i qg]) (w:=w) Tryz.func45 rfl Tryz.ntmps45 rfl (Zf (ZA 3 (fun b1=>.p0 b1) (fun b1=>Bk b1 (Za.c f) 44) (fun b1=>{}) (fun b1=>ZA 6 (fun b2=>.p0 b2) (fun b2=>Bk b2 (Za.c Za.zero) 44) (fun b2=>{}) (fun b2=>Zc 3 [] [(7,.i 0)] {} (Zz (Zc 1 [] [(14,Za.v Za.zero)] {} (ZA 8 (fun b3=>.p0 b3) (fun b3=>Bk b3 (Za.c Za.zero) 44) (fun b3=>{}) (fun b3=>Yp 0 (Bk b3 (Za.c Za.zero) 44) (fun _=>{}) (Z1 (Zf (Zc 1 [2] [(15,Za.v f)] {} (TL.c 16 (ZP f) (fun r1=>.i r1) (fun w _=>QS f w) {} (fun r1 hr1=>Zc 3 [] [(9,.i r1)] {} (Zz (Zc 2 [] [(18,.b (r1 != 0))] {} (Zb rfl (TC.cond (r1 != 0) rfl Kr (fun h1=>?_) (fun h1=>?_))))))))))))))))))
 ·exact Zf (Zc 2 [0] [(19,Za.v (⟨⟨0,0,0,⟨0,0⟩,⟨0,0⟩,0,0,0,0,0,0⟩,0,⟨0,⟨0,0⟩,0,0,0⟩⟩:Za)),(20,.i r1)] {} (Yp 1 (Bk b2 (Za.c Za.zero) 44) (fun _=>{}) (Zc 4 [] [(7,.i r1)] {} (Zb rfl (TC.ret (Zo (TE.ret [1] (.tuple #[Za.v (⟨⟨0,0,0,⟨0,0⟩,⟨0,0⟩,0,0,0,0,0,0⟩,0,⟨0,⟨0,0⟩,0,0,0⟩⟩:Za),.i r1]) {} (by unfold Z5;refine eS (a:=((⟨⟨0,0,0,⟨0,0⟩,⟨0,0⟩,0,0,0,0,0,0⟩,0,⟨0,⟨0,0⟩,0,0,0⟩⟩:Za),r1)) (fun (z:Za×Int)=>(.tuple #[Za.v z.1,.i z.2]:Value)) ?_;subst hr1;exact Zm h1 (rfl)))))))))
 ·refine Yc (Zc 6 [2] [(10,.i (w64 (time-f.Track.Time)))] {} (Z1 (TC.block (Zf (Zc 1 [] [(27,.i time)] {} (TL.c 28 (Yw time 0 200000) (fun r2=>.b r2) (fun w _=>QN time 0 200000 w) {} (fun r2 hr2=>Zc 3 [] [(29,.b r2)] {} (Yy 29 r2 Kr (fun h2=>?_) (fun h2=>?_)))))))))
  ·refine Zc 7 [] [(26,.b true)] {} (Zb rfl (Xg rfl Kr (Zf (Zc 1 [0] [(33,Za.v (⟨⟨0,0,0,⟨0,0⟩,⟨0,0⟩,0,0,0,0,0,0⟩,0,⟨0,⟨0,0⟩,0,0,0⟩⟩:Za))] {} (Yp 1 (Bk b2 (Za.c Za.zero) 44) (fun _=>{}) (Zc 3 [] [(7,.i 4)] {} (Zb rfl (TC.ret (ZL (Zo ?_))))))))))
   exact TE.ret [1] (.tuple #[Za.v (⟨⟨0,0,0,⟨0,0⟩,⟨0,0⟩,0,0,0,0,0,0⟩,0,⟨0,⟨0,0⟩,0,0,0⟩⟩:Za),.i 4]) {} (by unfold Z5;refine eS (a:=((⟨⟨0,0,0,⟨0,0⟩,⟨0,0⟩,0,0,0,0,0,0⟩,0,⟨0,⟨0,0⟩,0,0,0⟩⟩:Za),4)) (fun (z:Za×Int)=>(.tuple #[Za.v z.1,.i z.2]:Value)) ?_;subst hr1 hr2;exact Ze h1 (Zm h2 (rfl)))
  ·refine Zc 4 [] [(30,.i qg)] {} (TL.c 31 (Yw qg 0 20) (fun r3=>.b r3) (fun w _=>QN qg 0 20 w) {} (fun r3 hr3=>Zc 7 [] [(26,.b r3)] {} (Zb rfl (TC.cond r3 rfl Kr (fun h3=>?_) (fun h3=>?_)))))
   ·refine Zf (Zc 1 [0] [(33,Za.v (⟨⟨0,0,0,⟨0,0⟩,⟨0,0⟩,0,0,0,0,0,0⟩,0,⟨0,⟨0,0⟩,0,0,0⟩⟩:Za))] {} (Yp 1 (Bk b2 (Za.c Za.zero) 44) (fun _=>{}) (Zc 3 [] [(7,.i 4)] {} (Zb rfl (TC.ret (ZL (Zo ?_)))))))
    exact TE.ret [1] (.tuple #[Za.v (⟨⟨0,0,0,⟨0,0⟩,⟨0,0⟩,0,0,0,0,0,0⟩,0,⟨0,⟨0,0⟩,0,0,0⟩⟩:Za),.i 4]) {} (by unfold Z5;refine eS (a:=((⟨⟨0,0,0,⟨0,0⟩,⟨0,0⟩,0,0,0,0,0,0⟩,0,⟨0,⟨0,0⟩,0,0,0⟩⟩:Za),4)) (fun (z:Za×Int)=>(.tuple #[Za.v z.1,.i z.2]:Value)) ?_;subst hr1 hr2 hr3;exact Ze h1 (Ze h2 (Zm h3 (rfl))))
   ·refine Zf (Zc 1 [] [(35,.i (w64 (time-f.Track.Time)))] {} (TL.c 36 (Yw (w64 (time-f.Track.Time)) 0 600) (fun r4=>.b r4) (fun w _=>QN (w64 (time-f.Track.Time)) 0 600 w) {} (fun r4 hr4=>Zc 3 [] [(34,.b r4)] {} (Zb rfl (TC.cond r4 rfl Kr (fun h4=>?_) (fun h4=>?_))))))
    ·refine Zf (Zc 1 [0] [(37,Za.v (⟨⟨0,0,0,⟨0,0⟩,⟨0,0⟩,0,0,0,0,0,0⟩,0,⟨0,⟨0,0⟩,0,0,0⟩⟩:Za))] {} (Yp 1 (Bk b2 (Za.c Za.zero) 44) (fun _=>{}) (Zc 3 [] [(7,.i 12)] {} (Zb rfl (TC.ret (ZL (Zo ?_)))))))
     exact TE.ret [1] (.tuple #[Za.v (⟨⟨0,0,0,⟨0,0⟩,⟨0,0⟩,0,0,0,0,0,0⟩,0,⟨0,⟨0,0⟩,0,0,0⟩⟩:Za),.i 12]) {} (by unfold Z5;refine eS (a:=((⟨⟨0,0,0,⟨0,0⟩,⟨0,0⟩,0,0,0,0,0,0⟩,0,⟨0,⟨0,0⟩,0,0,0⟩⟩:Za),12)) (fun (z:Za×Int)=>(.tuple #[Za.v z.1,.i z.2]:Value)) ?_;subst hr1 hr2 hr3 hr4;exact Ze h1 (Ze h2 (Ze h3 (Zm h4 (rfl)))))
    ·refine Zf (Zc 3 [] [(38,.b ((w64 (time-f.Track.Time))==0))] {} (Zb rfl (TC.cond ((w64 (time-f.Track.Time))==0) rfl Kr (fun h5=>?_) (fun h5=>?_))))
     ·refine Zf (Zc 1 [2] [(41,Za.v f)] {} (Yp 1 (Bk b2 (Za.c f) 44) (fun _=>{}) (Zc 3 [] [(7,.i 0)] {} (Zb rfl (TC.ret (ZL (Zo ?_)))))))
      exact TE.ret [1] (.tuple #[Za.v f,.i 0]) {} (by unfold Z5;refine eS (a:=(f,0)) (fun (z:Za×Int)=>(.tuple #[Za.v z.1,.i z.2]:Value)) ?_;subst hr1 hr2 hr3 hr4;exact Ze h1 (Ze h2 (Ze h3 (Ze h4 (Zm h5 (rfl))))))
     ·refine TC.skip (ZY (YC (Zc 2 [] [(11,.p0 b1)] {} (Z1 (Ko 25 Kr Kr (YY 12 [2,2] [(43,.p0 b1),(47,P.v f.Track.At),(54,.i (w64 (f.Track.Speed.X*(w64 (time-f.Track.Time)))))] {} (TQ.c 55 (Yu (w64 (f.Track.Speed.X*(w64 (time-f.Track.Time)))) 16) (fun r5=>.i r5) (fun w _=>JJ (w64 (f.Track.Speed.X*(w64 (time-f.Track.Time)))) 16 w) rfl {} (fun r5 hr5=>YY 20 [2] [(62,.i (w64 (f.Track.Speed.Y*(w64 (time-f.Track.Time)))))] {} (TQ.c 63 (Yu (w64 (f.Track.Speed.Y*(w64 (time-f.Track.Time)))) 16) (fun r6=>.i r6) (fun w _=>JJ (w64 (f.Track.Speed.Y*(w64 (time-f.Track.Time)))) 16 w) rfl {} (fun r6 hr6=>YY 22 [] [(64,P.v (⟨r5,r6⟩:P))] {} (TQ.c 65 (Jr f.Track.At (⟨r5,r6⟩:P)) (fun r7=>P.v r7) (fun w _=>HQ f.Track.At (⟨r5,r6⟩:P) w) rfl {} (fun r7 hr7=>YY 25 [] [(67,.pt b1 3)] {} (TQ.tail rfl (Yp 2 (Bk b1 (Za.c (⟨⟨f.Track.ID,f.Track.State,f.Track.Time,r7,f.Track.Speed,f.Track.Height,f.Track.Rate,f.Track.Radius,f.Track.Code,f.Track.Hits,f.Track.Misses⟩,f.Slack,f.Last⟩:Za)) 44) (fun _=>{}) (Z1 (Ko 16 Kr Kr (YY 11 [2,2] [(68,.p0 b1),(72,.i f.Track.Height),(78,.i (w64 (f.Track.Rate*(w64 (time-f.Track.Time)))))] {} (TQ.c 79 (Yu (w64 (f.Track.Rate*(w64 (time-f.Track.Time)))) 16) (fun r8=>.i r8) (fun w _=>JJ (w64 (f.Track.Rate*(w64 (time-f.Track.Time)))) 16 w) rfl {} (fun r8 hr8=>YY 13 [] [(80,.i (w64 (f.Track.Height+r8)))] {} (TQ.c 81 (XY (w64 (f.Track.Height+r8)) 0 60000) (fun r9=>.i r9) (fun w _=>Wn (w64 (f.Track.Height+r8)) 0 60000 w) rfl {} (fun r9 hr9=>YY 16 [] [(83,.pt b1 7)] {} (TQ.tail rfl (Yp 2 (Bk b1 (Za.c (⟨⟨f.Track.ID,f.Track.State,f.Track.Time,r7,f.Track.Speed,r9,f.Track.Rate,f.Track.Radius,f.Track.Code,f.Track.Hits,f.Track.Misses⟩,f.Slack,f.Last⟩:Za)) 44) (fun _=>{}) (Zz (Zc 4 [2] [(86,.i f.Slack),(87,.i qg),(88,.i (w64 (time-f.Track.Time)))] {} (TL.c 89 (Jv f.Slack qg (w64 (time-f.Track.Time))) (fun r10=>.tuple #[.i r10.1,.i r10.2]) (fun w _=>Ny f.Slack qg (w64 (time-f.Track.Time)) w) {} (fun r10 js=>Zc 10 [] [(12,.i r10.1)] {} (Zz (Zc 8 [2] [(97,.i (w64 (f.Track.Radius+r10.1))),(99,.pt b1 9)] {} (Yp 2 (Bk b1 (Za.c (⟨⟨f.Track.ID,f.Track.State,f.Track.Time,r7,f.Track.Speed,r9,f.Track.Rate,w64 (f.Track.Radius+r10.1),f.Track.Code,f.Track.Hits,f.Track.Misses⟩,f.Slack,f.Last⟩:Za)) 44) (fun _=>{}) (Zz (Zc 4 [] [(101,.i time),(103,.pt b1 2)] {} (Yp 2 (Bk b1 (Za.c (⟨⟨f.Track.ID,f.Track.State,time,r7,f.Track.Speed,r9,f.Track.Rate,w64 (f.Track.Radius+r10.1),f.Track.Code,f.Track.Hits,f.Track.Misses⟩,f.Slack,f.Last⟩:Za)) 44) (fun _=>{}) (Zz (Zc 8 [2] [(110,.i (w64 (f.Slack+(w64 ((w64 (16*qg))*(w64 (time-f.Track.Time))))))),(111,.pt b1 13)] {} (Yp 2 (Bk b1 (Za.c (⟨⟨f.Track.ID,f.Track.State,time,r7,f.Track.Speed,r9,f.Track.Rate,w64 (f.Track.Radius+r10.1),f.Track.Code,f.Track.Hits,f.Track.Misses⟩,w64 (f.Slack+(w64 ((w64 (16*qg))*(w64 (time-f.Track.Time))))),f.Last⟩:Za)) 44) (fun _=>{}) (Z1 (Zf (Zc 1 [2] [(112,Za.v (⟨⟨f.Track.ID,f.Track.State,time,r7,f.Track.Speed,r9,f.Track.Rate,w64 (f.Track.Radius+r10.1),f.Track.Code,f.Track.Hits,f.Track.Misses⟩,w64 (f.Slack+(w64 ((w64 (16*qg))*(w64 (time-f.Track.Time))))),f.Last⟩:Za))] {} (TL.c 113 (ZP (⟨⟨f.Track.ID,f.Track.State,time,r7,f.Track.Speed,r9,f.Track.Rate,w64 (f.Track.Radius+r10.1),f.Track.Code,f.Track.Hits,f.Track.Misses⟩,w64 (f.Slack+(w64 ((w64 (16*qg))*(w64 (time-f.Track.Time))))),f.Last⟩:Za)) (fun r11=>.i r11) (fun w _=>QS (⟨⟨f.Track.ID,f.Track.State,time,r7,f.Track.Speed,r9,f.Track.Rate,w64 (f.Track.Radius+r10.1),f.Track.Code,f.Track.Hits,f.Track.Misses⟩,w64 (f.Slack+(w64 ((w64 (16*qg))*(w64 (time-f.Track.Time))))),f.Last⟩:Za) w) {} (fun r11 ju=>Zc 3 [] [(114,.b (r11 != 0))] {} (Zb rfl (TC.cond (r11 != 0) rfl Kr (fun h6=>?_) (fun h6=>?_))))))))))))))))))))))))))))))))))))))))))))
      ·exact Zf (Zc 1 [0] [(115,Za.v (⟨⟨0,0,0,⟨0,0⟩,⟨0,0⟩,0,0,0,0,0,0⟩,0,⟨0,⟨0,0⟩,0,0,0⟩⟩:Za))] {} (Yp 1 (Bk b2 (Za.c Za.zero) 44) (fun _=>{}) (Zc 3 [] [(7,.i 8)] {} (Zb rfl (TC.ret (Zo (TE.ret [1] (.tuple #[Za.v (⟨⟨0,0,0,⟨0,0⟩,⟨0,0⟩,0,0,0,0,0,0⟩,0,⟨0,⟨0,0⟩,0,0,0⟩⟩:Za),.i 8]) {} (by unfold Z5;refine eS (a:=((⟨⟨0,0,0,⟨0,0⟩,⟨0,0⟩,0,0,0,0,0,0⟩,0,⟨0,⟨0,0⟩,0,0,0⟩⟩:Za),8)) (fun (z:Za×Int)=>(.tuple #[Za.v z.1,.i z.2]:Value)) ?_;subst hr1 hr2 hr3 hr4 hr5 hr6 hr7 hr8 hr9 js ju;exact Ze h1 (Ze h2 (Ze h3 (Ze h4 (Ze h5 (Zm h6 (rfl))))))))))))))
      ·exact Yc (Zc 1 [2] [(116,Za.v (⟨⟨f.Track.ID,f.Track.State,time,r7,f.Track.Speed,r9,f.Track.Rate,w64 (f.Track.Radius+r10.1),f.Track.Code,f.Track.Hits,f.Track.Misses⟩,w64 (f.Slack+(w64 ((w64 (16*qg))*(w64 (time-f.Track.Time))))),f.Last⟩:Za))] {} (Yp 1 (Bk b2 (Za.c (⟨⟨f.Track.ID,f.Track.State,time,r7,f.Track.Speed,r9,f.Track.Rate,w64 (f.Track.Radius+r10.1),f.Track.Code,f.Track.Hits,f.Track.Misses⟩,w64 (f.Slack+(w64 ((w64 (16*qg))*(w64 (time-f.Track.Time))))),f.Last⟩:Za)) 44) (fun _=>{}) (Zc 3 [] [(7,.i 0)] {} (Zb rfl (TC.ret (TE.ret [1] (.tuple #[Za.v (⟨⟨f.Track.ID,f.Track.State,time,r7,f.Track.Speed,r9,f.Track.Rate,w64 (f.Track.Radius+r10.1),f.Track.Code,f.Track.Hits,f.Track.Misses⟩,w64 (f.Slack+(w64 ((w64 (16*qg))*(w64 (time-f.Track.Time))))),f.Last⟩:Za),.i 0]) {} (by unfold Z5;refine eS (a:=((⟨⟨f.Track.ID,f.Track.State,time,r7,f.Track.Speed,r9,f.Track.Rate,w64 (f.Track.Radius+r10.1),f.Track.Code,f.Track.Hits,f.Track.Misses⟩,w64 (f.Slack+(w64 ((w64 (16*qg))*(w64 (time-f.Track.Time))))),f.Last⟩:Za),0)) (fun (z:Za×Int)=>(.tuple #[Za.v z.1,.i z.2]:Value)) ?_;subst hr1 hr2 hr3 hr4 hr5 hr6 hr7 hr8 hr9 js ju;exact Ze h1 (Ze h2 (Ze h3 (Ze h4 (Ze h5 (Ze h6 (rfl)))))))))))))
def XW (a:Int) (b_:Int) (g_:Int):Int :=
 let r1:=Yu (w64 ((w64 (b_-a))*g_)) 256
 w64 (a+r1)
theorem VL (a:Int) (b_:Int) (g_:Int) (w:World):Calls Tryz.prog 111 #[.int .i64 a,.int .i64 b_,.int .i64 g_] w (Ret w (.int .i64 (XW a b_ g_))):=by
 exact Zp (vs:=[.i a,.i b_,.i g_]) (w:=w) Tryz.func111 rfl Tryz.ntmps111 rfl (Zf (Zc 1 [] [(6,.i 0)] {} (Zz (Zc 6 [] [(7,.i a),(12,.i (w64 ((w64 (b_-a))*g_)))] {} (TL.c 13 (Yu (w64 ((w64 (b_-a))*g_)) 256) (fun r1=>.i r1) (fun w _=>JJ (w64 ((w64 (b_-a))*g_)) 256 w) {} (fun r1 hr1=>Zc 9 [] [(6,.i (w64 (a+r1)))] {} (Zb rfl (TC.ret (TE.ret [] (.i (w64 (a+r1))) {} (by unfold XW;refine eS (fun z=>(.i z:Value)) ?_;subst hr1;exact rfl))))))))))
def Yk (f:Za) (s:Zj) (qg:Int) (place:Int) (speed:Int):Za×Int :=
 let r1:=ZP f
 cond (r1 != 0) (
  ((⟨⟨0,0,0,⟨0,0⟩,⟨0,0⟩,0,0,0,0,0,0⟩,0,⟨0,⟨0,0⟩,0,0,0⟩⟩:Za),r1)) (
  let r2:=ZG s
  cond (r2 != 0) (
   ((⟨⟨0,0,0,⟨0,0⟩,⟨0,0⟩,0,0,0,0,0,0⟩,0,⟨0,⟨0,0⟩,0,0,0⟩⟩:Za),r2)) (
   let r3:=Yw place 0 256
   cond r3 (
    ((⟨⟨0,0,0,⟨0,0⟩,⟨0,0⟩,0,0,0,0,0,0⟩,0,⟨0,⟨0,0⟩,0,0,0⟩⟩:Za),4)) (
    let r4:=Yw speed 0 256
    cond r4 (
     ((⟨⟨0,0,0,⟨0,0⟩,⟨0,0⟩,0,0,0,0,0,0⟩,0,⟨0,⟨0,0⟩,0,0,0⟩⟩:Za),4)) (
     cond (decide ((w64 (s.Time-f.Last.Time))≤0)) (
      ((⟨⟨0,0,0,⟨0,0⟩,⟨0,0⟩,0,0,0,0,0,0⟩,0,⟨0,⟨0,0⟩,0,0,0⟩⟩:Za),12)) (
      let r5:=Z5 f s.Time qg
      cond (r5.2 != 0) (
       ((⟨⟨0,0,0,⟨0,0⟩,⟨0,0⟩,0,0,0,0,0,0⟩,0,⟨0,⟨0,0⟩,0,0,0⟩⟩:Za),r5.2)) (
       let r6:=ZX r5.1.Track.At s.At (w64 (r5.1.Track.Radius+s.Error))
       cond (!r6) (
        ((⟨⟨0,0,0,⟨0,0⟩,⟨0,0⟩,0,0,0,0,0,0⟩,0,⟨0,⟨0,0⟩,0,0,0⟩⟩:Za),8)) (
        let r7:=XW r5.1.Track.At.X s.At.X place
        let r8:=XW r5.1.Track.At.Y s.At.Y place
        let r9:=Ja (w64 ((w64 ((w64 (256-place))*r5.1.Track.Radius))+(w64 (place*s.Error)))) 256
        let r10:=Yu (w64 (16*(w64 (s.At.X-f.Last.At.X)))) (w64 (s.Time-f.Last.Time))
        let r11:=Yu (w64 (16*(w64 (s.At.Y-f.Last.At.Y)))) (w64 (s.Time-f.Last.Time))
        let r12:=XW r5.1.Track.Speed.X r10 speed
        let r13:=XW r5.1.Track.Speed.Y r11 speed
        let r14:=Ja (w64 (16*(w64 (s.Error+f.Last.Error)))) (w64 (s.Time-f.Last.Time))
        let r15:=Ja (w64 ((w64 ((w64 (256-speed))*r5.1.Slack))+(w64 (speed*(w64 ((w64 (r14+(w64 ((w64 (16*qg))*(w64 (s.Time-f.Last.Time))))))+2)))))) 256
        let r16:=Yu (w64 (16*(w64 (s.Height-f.Last.Height)))) (w64 (s.Time-f.Last.Time))
        let r17:=XY r16 (-3200) 3200
        cond (s.Code != (-1)) (
         let r18:=ZP (⟨⟨r5.1.Track.ID,r5.1.Track.State,r5.1.Track.Time,⟨r7,r8⟩,⟨r12,r13⟩,s.Height,r17,w64 (r9+2),s.Code,w64 (r5.1.Track.Hits+1),0⟩,w64 (r15+2),s⟩:Za)
         cond (r18 != 0) (
          ((⟨⟨0,0,0,⟨0,0⟩,⟨0,0⟩,0,0,0,0,0,0⟩,0,⟨0,⟨0,0⟩,0,0,0⟩⟩:Za),8)) (
          ((⟨⟨r5.1.Track.ID,r5.1.Track.State,r5.1.Track.Time,⟨r7,r8⟩,⟨r12,r13⟩,s.Height,r17,w64 (r9+2),s.Code,w64 (r5.1.Track.Hits+1),0⟩,w64 (r15+2),s⟩:Za),0))) (
         let r19:=ZP (⟨⟨r5.1.Track.ID,r5.1.Track.State,r5.1.Track.Time,⟨r7,r8⟩,⟨r12,r13⟩,s.Height,r17,w64 (r9+2),r5.1.Track.Code,w64 (r5.1.Track.Hits+1),0⟩,w64 (r15+2),s⟩:Za)
         cond (r19 != 0) (
          ((⟨⟨0,0,0,⟨0,0⟩,⟨0,0⟩,0,0,0,0,0,0⟩,0,⟨0,⟨0,0⟩,0,0,0⟩⟩:Za),8)) (
          ((⟨⟨r5.1.Track.ID,r5.1.Track.State,r5.1.Track.Time,⟨r7,r8⟩,⟨r12,r13⟩,s.Height,r17,w64 (r9+2),r5.1.Track.Code,w64 (r5.1.Track.Hits+1),0⟩,w64 (r15+2),s⟩:Za),0))))))))))
set_option maxHeartbeats 4000000 in
theorem Bh (f:Za) (s:Zj) (qg:Int) (place:Int) (speed:Int) (w:World):Calls Tryz.prog 53 #[Za.v f,Zj.v s,.int .i64 qg,.int .i64 place,.int .i64 speed] w (Ret w (.tuple #[Za.v ((Yk f s qg place speed).1),.int .i64 ((Yk f s qg place speed).2)])):=by
 refine Zp (vs:=[Za.v f,Zj.v s,.i qg,.i place,.i speed]) (w:=w) Tryz.func53 rfl Tryz.ntmps53 rfl (Zf (ZA 5 (fun b1=>.p0 b1) (fun b1=>Bk b1 (Za.c f) 44) (fun b1=>{}) (fun b1=>ZA 6 (fun b2=>.p0 b2) (fun b2=>Bk b2 (Zj.c s) 42) (fun b2=>{}) (fun b2=>ZA 10 (fun b3=>.p0 b3) (fun b3=>Bk b3 (Za.c Za.zero) 44) (fun b3=>{}) (fun b3=>Zc 4 [] [(11,.i 0)] {} (Zz (Zc 1 [] [(22,Za.v Za.zero)] {} (ZA 12 (fun b4=>.p0 b4) (fun b4=>Bk b4 (Za.c Za.zero) 44) (fun b4=>{}) (fun b4=>Yp 0 (Bk b4 (Za.c Za.zero) 44) (fun _=>{}) (Z1 (Zf (Zc 1 [3] [(23,Za.v f)] {} (TL.c 24 (ZP f) (fun r1=>.i r1) (fun w _=>QS f w) {} (fun r1 hr1=>Zc 3 [] [(13,.i r1)] {} (Zz (Zc 2 [] [(26,.b (r1 != 0))] {} (Zb rfl (TC.cond (r1 != 0) rfl Kr (fun h1=>?_) (fun h1=>?_)))))))))))))))))))
 ·exact Zf (Zc 2 [0] [(27,Za.v (⟨⟨0,0,0,⟨0,0⟩,⟨0,0⟩,0,0,0,0,0,0⟩,0,⟨0,⟨0,0⟩,0,0,0⟩⟩:Za)),(28,.i r1)] {} (Yp 1 (Bk b3 (Za.c Za.zero) 44) (fun _=>{}) (Zc 4 [] [(11,.i r1)] {} (Zb rfl (TC.ret (Zo (TE.ret [1] (.tuple #[Za.v (⟨⟨0,0,0,⟨0,0⟩,⟨0,0⟩,0,0,0,0,0,0⟩,0,⟨0,⟨0,0⟩,0,0,0⟩⟩:Za),.i r1]) {} (by unfold Yk;refine eS (a:=((⟨⟨0,0,0,⟨0,0⟩,⟨0,0⟩,0,0,0,0,0,0⟩,0,⟨0,⟨0,0⟩,0,0,0⟩⟩:Za),r1)) (fun (z:Za×Int)=>(.tuple #[Za.v z.1,.i z.2]:Value)) ?_;subst hr1;exact Zm h1 (rfl)))))))))
 ·refine Yg (TC.seq (Zf (Zc 1 [2] [(29,Zj.v s)] {} (TL.c 30 (ZG s) (fun r2=>.i r2) (fun w _=>XX s w) {} (fun r2 hr2=>Zc 3 [] [(14,.i r2)] {} (Zz (Zc 2 [] [(32,.b (r2 != 0))] {} (Zb rfl (TC.cond (r2 != 0) rfl Kr (fun h2=>?_) (fun h2=>?_))))))))))
  ·exact Zf (Zc 2 [0] [(33,Za.v (⟨⟨0,0,0,⟨0,0⟩,⟨0,0⟩,0,0,0,0,0,0⟩,0,⟨0,⟨0,0⟩,0,0,0⟩⟩:Za)),(34,.i r2)] {} (Yp 1 (Bk b3 (Za.c Za.zero) 44) (fun _=>{}) (Zc 4 [] [(11,.i r2)] {} (Zb rfl (TC.ret (Zo (TE.ret [1] (.tuple #[Za.v (⟨⟨0,0,0,⟨0,0⟩,⟨0,0⟩,0,0,0,0,0,0⟩,0,⟨0,⟨0,0⟩,0,0,0⟩⟩:Za),.i r2]) {} (by unfold Yk;refine eS (a:=((⟨⟨0,0,0,⟨0,0⟩,⟨0,0⟩,0,0,0,0,0,0⟩,0,⟨0,⟨0,0⟩,0,0,0⟩⟩:Za),r2)) (fun (z:Za×Int)=>(.tuple #[Za.v z.1,.i z.2]:Value)) ?_;subst hr1 hr2;exact Ze h1 (Zm h2 (rfl))))))))))
  ·refine Yc (Zc 7 [2,3] [(15,.i (w64 (s.Time-f.Last.Time)))] {} (Z1 (TC.block (Zf (Zc 1 [] [(42,.i place)] {} (TL.c 43 (Yw place 0 256) (fun r3=>.b r3) (fun w _=>QN place 0 256 w) {} (fun r3 hr3=>Zc 3 [] [(44,.b r3)] {} (Yy 44 r3 Kr (fun h3=>?_) (fun h3=>?_)))))))))
   ·refine Zc 7 [] [(41,.b true)] {} (Zb rfl (Xg rfl Kr (Zf (Zc 1 [0] [(48,Za.v (⟨⟨0,0,0,⟨0,0⟩,⟨0,0⟩,0,0,0,0,0,0⟩,0,⟨0,⟨0,0⟩,0,0,0⟩⟩:Za))] {} (Yp 1 (Bk b3 (Za.c Za.zero) 44) (fun _=>{}) (Zc 3 [] [(11,.i 4)] {} (Zb rfl (TC.ret (ZL (Zo ?_))))))))))
    exact TE.ret [1] (.tuple #[Za.v (⟨⟨0,0,0,⟨0,0⟩,⟨0,0⟩,0,0,0,0,0,0⟩,0,⟨0,⟨0,0⟩,0,0,0⟩⟩:Za),.i 4]) {} (by unfold Yk;refine eS (a:=((⟨⟨0,0,0,⟨0,0⟩,⟨0,0⟩,0,0,0,0,0,0⟩,0,⟨0,⟨0,0⟩,0,0,0⟩⟩:Za),4)) (fun (z:Za×Int)=>(.tuple #[Za.v z.1,.i z.2]:Value)) ?_;subst hr1 hr2 hr3;exact Ze h1 (Ze h2 (Zm h3 (rfl))))
   ·refine Zc 4 [] [(45,.i speed)] {} (TL.c 46 (Yw speed 0 256) (fun r4=>.b r4) (fun w _=>QN speed 0 256 w) {} (fun r4 hr4=>Zc 7 [] [(41,.b r4)] {} (Zb rfl (TC.cond r4 rfl Kr (fun h4=>?_) (fun h4=>?_)))))
    ·refine Zf (Zc 1 [0] [(48,Za.v (⟨⟨0,0,0,⟨0,0⟩,⟨0,0⟩,0,0,0,0,0,0⟩,0,⟨0,⟨0,0⟩,0,0,0⟩⟩:Za))] {} (Yp 1 (Bk b3 (Za.c Za.zero) 44) (fun _=>{}) (Zc 3 [] [(11,.i 4)] {} (Zb rfl (TC.ret (ZL (Zo ?_)))))))
     exact TE.ret [1] (.tuple #[Za.v (⟨⟨0,0,0,⟨0,0⟩,⟨0,0⟩,0,0,0,0,0,0⟩,0,⟨0,⟨0,0⟩,0,0,0⟩⟩:Za),.i 4]) {} (by unfold Yk;refine eS (a:=((⟨⟨0,0,0,⟨0,0⟩,⟨0,0⟩,0,0,0,0,0,0⟩,0,⟨0,⟨0,0⟩,0,0,0⟩⟩:Za),4)) (fun (z:Za×Int)=>(.tuple #[Za.v z.1,.i z.2]:Value)) ?_;subst hr1 hr2 hr3 hr4;exact Ze h1 (Ze h2 (Ze h3 (Zm h4 (rfl)))))
    ·refine Zf (Zc 3 [] [(49,.b (decide ((w64 (s.Time-f.Last.Time))≤0)))] {} (Zb rfl (TC.cond (decide ((w64 (s.Time-f.Last.Time))≤0)) rfl Kr (fun h5=>?_) (fun h5=>?_))))
     ·refine Zf (Zc 1 [0] [(52,Za.v (⟨⟨0,0,0,⟨0,0⟩,⟨0,0⟩,0,0,0,0,0,0⟩,0,⟨0,⟨0,0⟩,0,0,0⟩⟩:Za))] {} (Yp 1 (Bk b3 (Za.c Za.zero) 44) (fun _=>{}) (Zc 3 [] [(11,.i 12)] {} (Zb rfl (TC.ret (ZL (Zo ?_)))))))
      exact TE.ret [1] (.tuple #[Za.v (⟨⟨0,0,0,⟨0,0⟩,⟨0,0⟩,0,0,0,0,0,0⟩,0,⟨0,⟨0,0⟩,0,0,0⟩⟩:Za),.i 12]) {} (by unfold Yk;refine eS (a:=((⟨⟨0,0,0,⟨0,0⟩,⟨0,0⟩,0,0,0,0,0,0⟩,0,⟨0,⟨0,0⟩,0,0,0⟩⟩:Za),12)) (fun (z:Za×Int)=>(.tuple #[Za.v z.1,.i z.2]:Value)) ?_;subst hr1 hr2 hr3 hr4;exact Ze h1 (Ze h2 (Ze h3 (Ze h4 (Zm h5 (rfl))))))
     ·refine TC.skip (ZY (YC (Zc 4 [3,2] [(54,Za.v f),(56,.i s.Time),(57,.i qg)] {} (TL.c 58 (Z5 f s.Time qg) (fun r5=>.tuple #[Za.v r5.1,.i r5.2]) (fun w _=>Vy f s.Time qg w) {} (fun r5 hr5=>Zc 8 [] [(59,Za.v r5.1),(60,.i r5.2)] {} (ZA 16 (fun b5=>.p0 b5) (fun b5=>Bk b5 (Za.c Za.zero) 44) (fun b5=>{}) (fun b5=>Yp 0 (Bk b5 (Za.c r5.1) 44) (fun _=>{}) (Zc 11 [] [(17,.i r5.2)] {} (Z1 (Zf (Zc 2 [] [(62,.b (r5.2 != 0))] {} (Zb rfl (TC.cond (r5.2 != 0) rfl Kr (fun h6=>?_) (fun h6=>?_))))))))))))))
      ·exact Zf (Zc 2 [1] [(63,Za.v (⟨⟨0,0,0,⟨0,0⟩,⟨0,0⟩,0,0,0,0,0,0⟩,0,⟨0,⟨0,0⟩,0,0,0⟩⟩:Za)),(64,.i r5.2)] {} (Yp 2 (Bk b3 (Za.c Za.zero) 44) (fun _=>{}) (Zc 4 [] [(11,.i r5.2)] {} (Zb rfl (TC.ret (Zo (TE.ret [2] (.tuple #[Za.v (⟨⟨0,0,0,⟨0,0⟩,⟨0,0⟩,0,0,0,0,0,0⟩,0,⟨0,⟨0,0⟩,0,0,0⟩⟩:Za),.i r5.2]) {} (by unfold Yk;refine eS (a:=((⟨⟨0,0,0,⟨0,0⟩,⟨0,0⟩,0,0,0,0,0,0⟩,0,⟨0,⟨0,0⟩,0,0,0⟩⟩:Za),r5.2)) (fun (z:Za×Int)=>(.tuple #[Za.v z.1,.i z.2]:Value)) ?_;subst hr1 hr2 hr3 hr4 hr5;exact Ze h1 (Ze h2 (Ze h3 (Ze h4 (Ze h5 (Zm h6 (rfl))))))))))))))
      ·refine Yg (TC.seq (Zf (Zc 11 [0,3,0,3] [(67,P.v r5.1.Track.At),(69,P.v s.At),(75,.i (w64 (r5.1.Track.Radius+s.Error)))] {} (TL.c 76 (ZX r5.1.Track.At s.At (w64 (r5.1.Track.Radius+s.Error))) (fun r6=>.b r6) (fun w _=>QR r5.1.Track.At s.At (w64 (r5.1.Track.Radius+s.Error)) w) {} (fun r6 hr6=>Zc 13 [] [(77,.b (!r6))] {} (Zb rfl (TC.cond (!r6) rfl Kr (fun h7=>?_) (fun h7=>?_))))))))
       ·exact Zf (Zc 1 [1] [(78,Za.v (⟨⟨0,0,0,⟨0,0⟩,⟨0,0⟩,0,0,0,0,0,0⟩,0,⟨0,⟨0,0⟩,0,0,0⟩⟩:Za))] {} (Yp 2 (Bk b3 (Za.c Za.zero) 44) (fun _=>{}) (Zc 3 [] [(11,.i 8)] {} (Zb rfl (TC.ret (Zo (TE.ret [2] (.tuple #[Za.v (⟨⟨0,0,0,⟨0,0⟩,⟨0,0⟩,0,0,0,0,0,0⟩,0,⟨0,⟨0,0⟩,0,0,0⟩⟩:Za),.i 8]) {} (by unfold Yk;refine eS (a:=((⟨⟨0,0,0,⟨0,0⟩,⟨0,0⟩,0,0,0,0,0,0⟩,0,⟨0,⟨0,0⟩,0,0,0⟩⟩:Za),8)) (fun (z:Za×Int)=>(.tuple #[Za.v z.1,.i z.2]:Value)) ?_;subst hr1 hr2 hr3 hr4 hr5 hr6;exact Ze h1 (Ze h2 (Ze h3 (Ze h4 (Ze h5 (Ze h6 (Zm h7 (rfl)))))))))))))))
       ·refine Yc (Zc 1 [0] [(79,Za.v r5.1)] {} (ZA 18 (fun b6=>.p0 b6) (fun b6=>Bk b6 (Za.c Za.zero) 44) (fun b6=>{}) (fun b6=>Yp 0 (Bk b6 (Za.c r5.1) 44) (fun _=>{}) (Zz (Zc 2 [] [(19,.p0 b6)] {} (Z1 (Ko 22 Kr Kr (YY 9 [1,4] [(81,.p0 b6),(85,.i r5.1.Track.At.X),(88,.i s.At.X),(89,.i place)] {} (TQ.c 90 (XW r5.1.Track.At.X s.At.X place) (fun r7=>.i r7) (fun w _=>VL r5.1.Track.At.X s.At.X place w) rfl {} (fun r7 hr7=>YY 18 [1,4] [(94,.i r5.1.Track.At.Y),(97,.i s.At.Y),(98,.i place)] {} (TQ.c 99 (XW r5.1.Track.At.Y s.At.Y place) (fun r8=>.i r8) (fun w _=>VL r5.1.Track.At.Y s.At.Y place w) rfl {} (fun r8 hr8=>YY 22 [] [(100,P.v (⟨r7,r8⟩:P)),(102,.pt b6 3)] {} (TQ.tail rfl (Yp 0 (Bk b6 (Za.c (⟨⟨r5.1.Track.ID,r5.1.Track.State,r5.1.Track.Time,⟨r7,r8⟩,r5.1.Track.Speed,r5.1.Track.Height,r5.1.Track.Rate,r5.1.Track.Radius,r5.1.Track.Code,r5.1.Track.Hits,r5.1.Track.Misses⟩,r5.1.Slack,r5.1.Last⟩:Za)) 44) (fun _=>{}) (Zz (Zc 12 [1,4] [(103,.p0 b6),(114,.i (w64 ((w64 ((w64 (256-place))*r5.1.Track.Radius))+(w64 (place*s.Error)))))] {} (TL.c 115 (Ja (w64 ((w64 ((w64 (256-place))*r5.1.Track.Radius))+(w64 (place*s.Error)))) 256) (fun r9=>.i r9) (fun w _=>Gz (w64 ((w64 ((w64 (256-place))*r5.1.Track.Radius))+(w64 (place*s.Error)))) 256 w) {} (fun r9 hr9=>Zc 16 [] [(116,.i (w64 (r9+2))),(118,.pt b6 9)] {} (Yp 0 (Bk b6 (Za.c (⟨⟨r5.1.Track.ID,r5.1.Track.State,r5.1.Track.Time,⟨r7,r8⟩,r5.1.Track.Speed,r5.1.Track.Height,r5.1.Track.Rate,w64 (r9+2),r5.1.Track.Code,r5.1.Track.Hits,r5.1.Track.Misses⟩,r5.1.Slack,r5.1.Last⟩:Za)) 44) (fun _=>{}) (Z1 ?_))))))))))))))))))))
        obtain⟨r10,js⟩:∃ r,Yu (w64 (16*(w64 (s.At.X-f.Last.At.X)))) (w64 (s.Time-f.Last.Time))=r:=⟨_,rfl⟩
        obtain⟨r11,ju⟩:∃ r,Yu (w64 (16*(w64 (s.At.Y-f.Last.At.Y)))) (w64 (s.Time-f.Last.Time))=r:=⟨_,rfl⟩
        let Mr22_:Mem:=[Bk b6 (Za.c (⟨⟨r5.1.Track.ID,r5.1.Track.State,r5.1.Track.Time,⟨r7,r8⟩,r5.1.Track.Speed,r5.1.Track.Height,r5.1.Track.Rate,w64 (r9+2),r5.1.Track.Code,r5.1.Track.Hits,r5.1.Track.Misses⟩,r5.1.Slack,r5.1.Last⟩:Za)) 44,Bk b5 (Za.c r5.1) 44,Bk b4 (Za.c Za.zero) 44,Bk b3 (Za.c Za.zero) 44,Bk b2 (Zj.c s) 42,Bk b1 (Za.c f) 44]
        refine Jm (G:=Nat) (base:=[(2,.i qg),(4,.i speed),(5,.p0 b1),(6,.p0 b2),(10,.p0 b3),(12,.p0 b4),(15,.i (w64 (s.Time-f.Last.Time))),(16,.p0 b5),(18,.p0 b6),(19,.p0 b6)]) (vals:=fun γ=>[.pt b2 1,.pt b2 1,.i s.At.X,.pt b1 14,.pt b1 15,.pt b1 15,.i f.Last.At.X,.i (w64 (s.At.X-f.Last.At.X)),.i (w64 (16*(w64 (s.At.X-f.Last.At.X)))),.i (w64 (s.Time-f.Last.Time)),.i r10,.pt b2 1,.pt b2 2,.i s.At.Y,.pt b1 14,.pt b1 15,.pt b1 16,.i f.Last.At.Y,.i (w64 (s.At.Y-f.Last.At.Y)),.i (w64 (16*(w64 (s.At.Y-f.Last.At.Y)))),.i (w64 (s.Time-f.Last.Time)),.i r11,P.v (⟨r10,r11⟩:P),.p0 γ,undef]) (writes:=[23,24]) (mem:=fun bs γ=>match bs with | [x23_,x24_]=>(bif x24_ then [Bk γ (P.c (⟨r10,r11⟩:P)) 36] else bif x23_ then [Bk γ (P.c P.zero) 36] else [])++(Mr22_)|_=>[]) (0) (fun γ=>[(2,.i qg),(4,.i speed),(5,.p0 b1),(6,.p0 b2),(10,.p0 b3),(12,.p0 b4),(15,.i (w64 (s.Time-f.Last.Time))),(16,.p0 b5),(18,.p0 b6),(19,.p0 b6),(20,.p0 γ)]) Kr Kr Kr Kr Kr (fun γ=>Kr) (fun _ hM=>hM) (fun γ=>Kr) ?_ ?_
        ·skip
         exact Steps.run (i:=0) 10 [0,0,4,0,0,0,5,0,0,0] Mr22_ Kr Kr (fun S (γ:Nat) w hM=>by rw[mS2 rfl rfl] at hM;exact hM.sub (Zl (aB _))) Kr (fun (γ:Nat)=>{}) (Steps.call (i:=10) 99 (fun (γ:Nat)=>#[.i (w64 (16*(w64 (s.At.X-f.Last.At.X)))),.i (w64 (s.Time-f.Last.Time))]) (some 129) (fun (γ:Nat)=>.i r10) (fun (γ:Nat)=>[Bk b6 (Za.c (⟨⟨r5.1.Track.ID,r5.1.Track.State,r5.1.Track.Time,⟨r7,r8⟩,r5.1.Track.Speed,r5.1.Track.Height,r5.1.Track.Rate,w64 (r9+2),r5.1.Track.Code,r5.1.Track.Hits,r5.1.Track.Misses⟩,r5.1.Slack,r5.1.Last⟩:Za)) 44,Bk b5 (Za.c r5.1) 44,Bk b4 (Za.c Za.zero) 44,Bk b3 (Za.c Za.zero) 44,Bk b2 (Zj.c s) 42,Bk b1 (Za.c f) 44]) Kr (fun S (γ:Nat) w _ hM=>by rw[mS2 rfl rfl] at hM;exact hM.sub (Zl (aB _))) (fun (γ:Nat) w _=>by have h:=JJ (w64 (16*(w64 (s.At.X-f.Last.At.X)))) (w64 (s.Time-f.Last.Time)) w;rw[js] at h;exact h) (fun (γ:Nat)=>Kr) (fun (γ:Nat)=>Kr) (Steps.run (i:=11) 21 [0,0,4,0,0,0,5,0,0,0] Mr22_ Kr Kr (fun S (γ:Nat) w hM=>by rw[mS2 rfl rfl] at hM;exact hM.sub (Zl (aB _))) Kr (fun (γ:Nat)=>{}) (Steps.call (i:=21) 99 (fun (γ:Nat)=>#[.i (w64 (16*(w64 (s.At.Y-f.Last.At.Y)))),.i (w64 (s.Time-f.Last.Time))]) (some 140) (fun (γ:Nat)=>.i r11) (fun (γ:Nat)=>[Bk b6 (Za.c (⟨⟨r5.1.Track.ID,r5.1.Track.State,r5.1.Track.Time,⟨r7,r8⟩,r5.1.Track.Speed,r5.1.Track.Height,r5.1.Track.Rate,w64 (r9+2),r5.1.Track.Code,r5.1.Track.Hits,r5.1.Track.Misses⟩,r5.1.Slack,r5.1.Last⟩:Za)) 44,Bk b5 (Za.c r5.1) 44,Bk b4 (Za.c Za.zero) 44,Bk b3 (Za.c Za.zero) 44,Bk b2 (Zj.c s) 42,Bk b1 (Za.c f) 44]) Kr (fun S (γ:Nat) w _ hM=>by rw[mS2 rfl rfl] at hM;exact hM.sub (Zl (aB _))) (fun (γ:Nat) w _=>by have h:=JJ (w64 (16*(w64 (s.At.Y-f.Last.At.Y)))) (w64 (s.Time-f.Last.Time)) w;rw[ju] at h;exact h) (fun (γ:Nat)=>Kr) (fun (γ:Nat)=>Kr) (Steps.run (i:=22) 23 [0] Mr22_ Kr Kr (fun S (γ:Nat) w hM=>by rw[mS2 rfl rfl] at hM;exact hM.sub (Zl (aB _))) Kr (fun (γ:Nat)=>{}) (Steps.op (i:=23) (Γ:=Nat) (fun g (γ:Nat)=>g) (fun _=>[]) (fun b (γ:Nat)=>[Bk b (P.c P.zero) 36]) (fun S (γ:Nat)=>Mr22_) [23,24] (fun (γ:Nat)=>sV (Instr.alloc 36 true (.tuple #[]))) (some 20) (fun b (γ:Nat)=>.p0 b) (fun S (γ:Nat) hj hd hl=>by rw[mS2 hj (hl 24 Kr)];exact aC _) (fun S (γ:Nat) g hl=>by rw[mS2 (S:=upS S 23) (a0:=23) (a1:=24) rfl (hl 24 Kr)];exact(aC _).symm) (fun (γ:Nat) M' w hM=>Q4 (v:=fun b=>.p0 b) (fun b M=>Kr) M' w hM) (fun (γ:Nat)=>Kr) (fun (γ:Nat) g=>Kr) Kr (fun (γ:Nat) g=>Kr) (Steps.put (i:=24) (fun (γ:Nat)=>[Bk γ (P.c P.zero) 36]) (fun (γ:Nat)=>[Bk γ (P.c (⟨r10,r11⟩:P)) 36]) (fun S (γ:Nat)=>Mr22_) (fun (γ:Nat)=>sU (Instr.storeAt 36 (.p0 γ) (P.v (⟨r10,r11⟩:P)))) none (fun S (γ:Nat) hj hd hl=>by rw[mS2 (hd 23 Kr) hj];exact aC _) (fun S (γ:Nat) _=>(aC _).symm) (fun (γ:Nat) M' w hM=>JB (fun b M=>Kr) (fun b M=>Kr) M' w hM) (fun (γ:Nat)=>Kr) (fun (γ:Nat)=>Kr) (X6 Kr)))))))
        ·rintro b7
         refine Yi [Bk b7 (P.c (⟨r10,r11⟩:P)) 36,Bk b6 (Za.c (⟨⟨r5.1.Track.ID,r5.1.Track.State,r5.1.Track.Time,⟨r7,r8⟩,r5.1.Track.Speed,r5.1.Track.Height,r5.1.Track.Rate,w64 (r9+2),r5.1.Track.Code,r5.1.Track.Hits,r5.1.Track.Misses⟩,r5.1.Slack,r5.1.Last⟩:Za)) 44,Bk b5 (Za.c r5.1) 44,Bk b4 (Za.c Za.zero) 44,Bk b3 (Za.c Za.zero) 44,Bk b2 (Zj.c s) 42,Bk b1 (Za.c f) 44] (fun _ hM=>hM) (Z3 (TC.seq (Ko 20 Kr Kr (YY 8 [2,0] [(142,.p0 b6),(146,.i r5.1.Track.Speed.X),(148,.i r10),(149,.i speed)] {} (TQ.c 150 (XW r5.1.Track.Speed.X r10 speed) (fun r12=>.i r12) (fun w _=>VL r5.1.Track.Speed.X r10 speed w) rfl {} (fun r12 kb=>YY 16 [2,0] [(154,.i r5.1.Track.Speed.Y),(156,.i r11),(157,.i speed)] {} (TQ.c 158 (XW r5.1.Track.Speed.Y r11 speed) (fun r13=>.i r13) (fun w _=>VL r5.1.Track.Speed.Y r11 speed w) rfl {} (fun r13 kj=>YY 20 [] [(159,P.v (⟨r12,r13⟩:P)),(161,.pt b6 5)] {} (TQ.tail rfl (Yp 1 (Bk b6 (Za.c (⟨⟨r5.1.Track.ID,r5.1.Track.State,r5.1.Track.Time,⟨r7,r8⟩,⟨r12,r13⟩,r5.1.Track.Height,r5.1.Track.Rate,w64 (r9+2),r5.1.Track.Code,r5.1.Track.Hits,r5.1.Track.Misses⟩,r5.1.Slack,r5.1.Last⟩:Za)) 44) (fun _=>{}) (Zz (Zc 8 [5,6] [(168,.i (w64 (16*(w64 (s.Error+f.Last.Error))))),(169,.i (w64 (s.Time-f.Last.Time)))] {} (TL.c 170 (Ja (w64 (16*(w64 (s.Error+f.Last.Error)))) (w64 (s.Time-f.Last.Time))) (fun r14=>.i r14) (fun w _=>Gz (w64 (16*(w64 (s.Error+f.Last.Error)))) (w64 (s.Time-f.Last.Time)) w) {} (fun r14 yu=>Zc 16 [] [(21,.i (w64 ((w64 (r14+(w64 ((w64 (16*qg))*(w64 (s.Time-f.Last.Time))))))+2)))] {} (Zz (Zc 9 [2] [(185,.i (w64 ((w64 ((w64 (256-speed))*r5.1.Slack))+(w64 (speed*(w64 ((w64 (r14+(w64 ((w64 (16*qg))*(w64 (s.Time-f.Last.Time))))))+2)))))))] {} (TL.c 186 (Ja (w64 ((w64 ((w64 (256-speed))*r5.1.Slack))+(w64 (speed*(w64 ((w64 (r14+(w64 ((w64 (16*qg))*(w64 (s.Time-f.Last.Time))))))+2)))))) 256) (fun r15=>.i r15) (fun w _=>Gz (w64 ((w64 ((w64 (256-speed))*r5.1.Slack))+(w64 (speed*(w64 ((w64 (r14+(w64 ((w64 (16*qg))*(w64 (s.Time-f.Last.Time))))))+2)))))) 256 w) {} (fun r15 rl=>Zc 12 [] [(187,.i (w64 (r15+2))),(188,.pt b6 13)] {} (Yp 1 (Bk b6 (Za.c (⟨⟨r5.1.Track.ID,r5.1.Track.State,r5.1.Track.Time,⟨r7,r8⟩,⟨r12,r13⟩,r5.1.Track.Height,r5.1.Track.Rate,w64 (r9+2),r5.1.Track.Code,r5.1.Track.Hits,r5.1.Track.Misses⟩,w64 (r15+2),r5.1.Last⟩:Za)) 44) (fun _=>{}) (Zz (Zc 9 [5,6] [(189,.p0 b6),(196,.i (w64 (16*(w64 (s.Height-f.Last.Height))))),(197,.i (w64 (s.Time-f.Last.Time)))] {} (TL.c 198 (Yu (w64 (16*(w64 (s.Height-f.Last.Height)))) (w64 (s.Time-f.Last.Time))) (fun r16=>.i r16) (fun w _=>JJ (w64 (16*(w64 (s.Height-f.Last.Height)))) (w64 (s.Time-f.Last.Time)) w) {} (fun r16 rn=>TL.c 199 (XY r16 (-3200) 3200) (fun r17=>.i r17) (fun w _=>Wn r16 (-3200) 3200 w) {} (fun r17 rp=>Zc 13 [] [(201,.pt b6 8)] {} (Yp 1 (Bk b6 (Za.c (⟨⟨r5.1.Track.ID,r5.1.Track.State,r5.1.Track.Time,⟨r7,r8⟩,⟨r12,r13⟩,r5.1.Track.Height,r17,w64 (r9+2),r5.1.Track.Code,r5.1.Track.Hits,r5.1.Track.Misses⟩,w64 (r15+2),r5.1.Last⟩:Za)) 44) (fun _=>{}) (Zz (Zc 5 [5] [(204,.i s.Height),(206,.pt b6 7)] {} (Yp 1 (Bk b6 (Za.c (⟨⟨r5.1.Track.ID,r5.1.Track.State,r5.1.Track.Time,⟨r7,r8⟩,⟨r12,r13⟩,s.Height,r17,w64 (r9+2),r5.1.Track.Code,r5.1.Track.Hits,r5.1.Track.Misses⟩,w64 (r15+2),r5.1.Last⟩:Za)) 44) (fun _=>{}) (Z1 (Zf (Zc 3 [5] [(209,.b (s.Code != (-1)))] {} (Zb rfl (TC.cond (s.Code != (-1)) rfl Kr (fun h8=>?_) (fun h8=>?_))))))))))))))))))))))))))))))))))
         ·refine TC.region (Zc 5 [5] [(212,.i s.Code),(214,.pt b6 10)] {} (Yp 1 (Bk b6 (Za.c (⟨⟨r5.1.Track.ID,r5.1.Track.State,r5.1.Track.Time,⟨r7,r8⟩,⟨r12,r13⟩,s.Height,r17,w64 (r9+2),s.Code,r5.1.Track.Hits,r5.1.Track.Misses⟩,w64 (r15+2),r5.1.Last⟩:Za)) 44) (fun _=>{}) (Zz (Zc 7 [1] [(219,.i (w64 (r5.1.Track.Hits+1))),(221,.pt b6 11)] {} (Yp 1 (Bk b6 (Za.c (⟨⟨r5.1.Track.ID,r5.1.Track.State,r5.1.Track.Time,⟨r7,r8⟩,⟨r12,r13⟩,s.Height,r17,w64 (r9+2),s.Code,w64 (r5.1.Track.Hits+1),r5.1.Track.Misses⟩,w64 (r15+2),r5.1.Last⟩:Za)) 44) (fun _=>{}) (Zz (Zc 3 [] [(224,.pt b6 12)] {} (Yp 1 (Bk b6 (Za.c (⟨⟨r5.1.Track.ID,r5.1.Track.State,r5.1.Track.Time,⟨r7,r8⟩,⟨r12,r13⟩,s.Height,r17,w64 (r9+2),s.Code,w64 (r5.1.Track.Hits+1),0⟩,w64 (r15+2),r5.1.Last⟩:Za)) 44) (fun _=>{}) (Zz (Zc 2 [5] [(225,Zj.v s),(226,.pt b6 14)] {} (Yp 1 (Bk b6 (Za.c (⟨⟨r5.1.Track.ID,r5.1.Track.State,r5.1.Track.Time,⟨r7,r8⟩,⟨r12,r13⟩,s.Height,r17,w64 (r9+2),s.Code,w64 (r5.1.Track.Hits+1),0⟩,w64 (r15+2),s⟩:Za)) 44) (fun _=>{}) (Z1 (Zf (Zc 1 [1] [(227,Za.v (⟨⟨r5.1.Track.ID,r5.1.Track.State,r5.1.Track.Time,⟨r7,r8⟩,⟨r12,r13⟩,s.Height,r17,w64 (r9+2),s.Code,w64 (r5.1.Track.Hits+1),0⟩,w64 (r15+2),s⟩:Za))] {} (TL.c 228 (ZP (⟨⟨r5.1.Track.ID,r5.1.Track.State,r5.1.Track.Time,⟨r7,r8⟩,⟨r12,r13⟩,s.Height,r17,w64 (r9+2),s.Code,w64 (r5.1.Track.Hits+1),0⟩,w64 (r15+2),s⟩:Za)) (fun r18=>.i r18) (fun w _=>QS (⟨⟨r5.1.Track.ID,r5.1.Track.State,r5.1.Track.Time,⟨r7,r8⟩,⟨r12,r13⟩,s.Height,r17,w64 (r9+2),s.Code,w64 (r5.1.Track.Hits+1),0⟩,w64 (r15+2),s⟩:Za) w) {} (fun r18 cq=>Zc 3 [] [(229,.b (r18 != 0))] {} (Zb rfl (TC.cond (r18 != 0) rfl Kr (fun h9=>?_) (fun h9=>?_)))))))))))))))))))
          ·exact Zf (Zc 1 [3] [(230,Za.v (⟨⟨0,0,0,⟨0,0⟩,⟨0,0⟩,0,0,0,0,0,0⟩,0,⟨0,⟨0,0⟩,0,0,0⟩⟩:Za))] {} (Yp 4 (Bk b3 (Za.c Za.zero) 44) (fun _=>{}) (Zc 3 [] [(11,.i 8)] {} (Zb rfl (TC.ret (Zo (TE.ret [4] (.tuple #[Za.v (⟨⟨0,0,0,⟨0,0⟩,⟨0,0⟩,0,0,0,0,0,0⟩,0,⟨0,⟨0,0⟩,0,0,0⟩⟩:Za),.i 8]) {} (by unfold Yk;refine eS (a:=((⟨⟨0,0,0,⟨0,0⟩,⟨0,0⟩,0,0,0,0,0,0⟩,0,⟨0,⟨0,0⟩,0,0,0⟩⟩:Za),8)) (fun (z:Za×Int)=>(.tuple #[Za.v z.1,.i z.2]:Value)) ?_;subst hr1 hr2 hr3 hr4 hr5 hr6 hr7 hr8 hr9 js ju kb kj yu rl rn rp cq;exact Ze h1 (Ze h2 (Ze h3 (Ze h4 (Ze h5 (Ze h6 (Ze h7 (Zm h8 (Zm h9 (rfl)))))))))))))))))
          ·exact Yc (Zc 1 [1] [(231,Za.v (⟨⟨r5.1.Track.ID,r5.1.Track.State,r5.1.Track.Time,⟨r7,r8⟩,⟨r12,r13⟩,s.Height,r17,w64 (r9+2),s.Code,w64 (r5.1.Track.Hits+1),0⟩,w64 (r15+2),s⟩:Za))] {} (Yp 4 (Bk b3 (Za.c (⟨⟨r5.1.Track.ID,r5.1.Track.State,r5.1.Track.Time,⟨r7,r8⟩,⟨r12,r13⟩,s.Height,r17,w64 (r9+2),s.Code,w64 (r5.1.Track.Hits+1),0⟩,w64 (r15+2),s⟩:Za)) 44) (fun _=>{}) (Zc 3 [] [(11,.i 0)] {} (Zb rfl (TC.ret (TE.ret [4] (.tuple #[Za.v (⟨⟨r5.1.Track.ID,r5.1.Track.State,r5.1.Track.Time,⟨r7,r8⟩,⟨r12,r13⟩,s.Height,r17,w64 (r9+2),s.Code,w64 (r5.1.Track.Hits+1),0⟩,w64 (r15+2),s⟩:Za),.i 0]) {} (by unfold Yk;refine eS (a:=((⟨⟨r5.1.Track.ID,r5.1.Track.State,r5.1.Track.Time,⟨r7,r8⟩,⟨r12,r13⟩,s.Height,r17,w64 (r9+2),s.Code,w64 (r5.1.Track.Hits+1),0⟩,w64 (r15+2),s⟩:Za),0)) (fun (z:Za×Int)=>(.tuple #[Za.v z.1,.i z.2]:Value)) ?_;subst hr1 hr2 hr3 hr4 hr5 hr6 hr7 hr8 hr9 js ju kb kj yu rl rn rp cq;exact Ze h1 (Ze h2 (Ze h3 (Ze h4 (Ze h5 (Ze h6 (Ze h7 (Zm h8 (Ze h9 (rfl))))))))))))))))
         ·refine Yc (Zc 7 [1] [(219,.i (w64 (r5.1.Track.Hits+1))),(221,.pt b6 11)] {} (Yp 1 (Bk b6 (Za.c (⟨⟨r5.1.Track.ID,r5.1.Track.State,r5.1.Track.Time,⟨r7,r8⟩,⟨r12,r13⟩,s.Height,r17,w64 (r9+2),r5.1.Track.Code,w64 (r5.1.Track.Hits+1),r5.1.Track.Misses⟩,w64 (r15+2),r5.1.Last⟩:Za)) 44) (fun _=>{}) (Zz (Zc 3 [] [(224,.pt b6 12)] {} (Yp 1 (Bk b6 (Za.c (⟨⟨r5.1.Track.ID,r5.1.Track.State,r5.1.Track.Time,⟨r7,r8⟩,⟨r12,r13⟩,s.Height,r17,w64 (r9+2),r5.1.Track.Code,w64 (r5.1.Track.Hits+1),0⟩,w64 (r15+2),r5.1.Last⟩:Za)) 44) (fun _=>{}) (Zz (Zc 2 [5] [(225,Zj.v s),(226,.pt b6 14)] {} (Yp 1 (Bk b6 (Za.c (⟨⟨r5.1.Track.ID,r5.1.Track.State,r5.1.Track.Time,⟨r7,r8⟩,⟨r12,r13⟩,s.Height,r17,w64 (r9+2),r5.1.Track.Code,w64 (r5.1.Track.Hits+1),0⟩,w64 (r15+2),s⟩:Za)) 44) (fun _=>{}) (Z1 (Zf (Zc 1 [1] [(227,Za.v (⟨⟨r5.1.Track.ID,r5.1.Track.State,r5.1.Track.Time,⟨r7,r8⟩,⟨r12,r13⟩,s.Height,r17,w64 (r9+2),r5.1.Track.Code,w64 (r5.1.Track.Hits+1),0⟩,w64 (r15+2),s⟩:Za))] {} (TL.c 228 (ZP (⟨⟨r5.1.Track.ID,r5.1.Track.State,r5.1.Track.Time,⟨r7,r8⟩,⟨r12,r13⟩,s.Height,r17,w64 (r9+2),r5.1.Track.Code,w64 (r5.1.Track.Hits+1),0⟩,w64 (r15+2),s⟩:Za)) (fun r19=>.i r19) (fun w _=>QS (⟨⟨r5.1.Track.ID,r5.1.Track.State,r5.1.Track.Time,⟨r7,r8⟩,⟨r12,r13⟩,s.Height,r17,w64 (r9+2),r5.1.Track.Code,w64 (r5.1.Track.Hits+1),0⟩,w64 (r15+2),s⟩:Za) w) {} (fun r19 cr=>Zc 3 [] [(229,.b (r19 != 0))] {} (Zb rfl (TC.cond (r19 != 0) rfl Kr (fun h10=>?_) (fun h10=>?_))))))))))))))))
          ·exact Zf (Zc 1 [3] [(230,Za.v (⟨⟨0,0,0,⟨0,0⟩,⟨0,0⟩,0,0,0,0,0,0⟩,0,⟨0,⟨0,0⟩,0,0,0⟩⟩:Za))] {} (Yp 4 (Bk b3 (Za.c Za.zero) 44) (fun _=>{}) (Zc 3 [] [(11,.i 8)] {} (Zb rfl (TC.ret (Zo (TE.ret [4] (.tuple #[Za.v (⟨⟨0,0,0,⟨0,0⟩,⟨0,0⟩,0,0,0,0,0,0⟩,0,⟨0,⟨0,0⟩,0,0,0⟩⟩:Za),.i 8]) {} (by unfold Yk;refine eS (a:=((⟨⟨0,0,0,⟨0,0⟩,⟨0,0⟩,0,0,0,0,0,0⟩,0,⟨0,⟨0,0⟩,0,0,0⟩⟩:Za),8)) (fun (z:Za×Int)=>(.tuple #[Za.v z.1,.i z.2]:Value)) ?_;subst hr1 hr2 hr3 hr4 hr5 hr6 hr7 hr8 hr9 js ju kb kj yu rl rn rp cr;exact Ze h1 (Ze h2 (Ze h3 (Ze h4 (Ze h5 (Ze h6 (Ze h7 (Ze h8 (Zm h10 (rfl)))))))))))))))))
          ·exact Yc (Zc 1 [1] [(231,Za.v (⟨⟨r5.1.Track.ID,r5.1.Track.State,r5.1.Track.Time,⟨r7,r8⟩,⟨r12,r13⟩,s.Height,r17,w64 (r9+2),r5.1.Track.Code,w64 (r5.1.Track.Hits+1),0⟩,w64 (r15+2),s⟩:Za))] {} (Yp 4 (Bk b3 (Za.c (⟨⟨r5.1.Track.ID,r5.1.Track.State,r5.1.Track.Time,⟨r7,r8⟩,⟨r12,r13⟩,s.Height,r17,w64 (r9+2),r5.1.Track.Code,w64 (r5.1.Track.Hits+1),0⟩,w64 (r15+2),s⟩:Za)) 44) (fun _=>{}) (Zc 3 [] [(11,.i 0)] {} (Zb rfl (TC.ret (TE.ret [4] (.tuple #[Za.v (⟨⟨r5.1.Track.ID,r5.1.Track.State,r5.1.Track.Time,⟨r7,r8⟩,⟨r12,r13⟩,s.Height,r17,w64 (r9+2),r5.1.Track.Code,w64 (r5.1.Track.Hits+1),0⟩,w64 (r15+2),s⟩:Za),.i 0]) {} (by unfold Yk;refine eS (a:=((⟨⟨r5.1.Track.ID,r5.1.Track.State,r5.1.Track.Time,⟨r7,r8⟩,⟨r12,r13⟩,s.Height,r17,w64 (r9+2),r5.1.Track.Code,w64 (r5.1.Track.Hits+1),0⟩,w64 (r15+2),s⟩:Za),0)) (fun (z:Za×Int)=>(.tuple #[Za.v z.1,.i z.2]:Value)) ?_;subst hr1 hr2 hr3 hr4 hr5 hr6 hr7 hr8 hr9 js ju kb kj yu rl rn rp cr;exact Ze h1 (Ze h2 (Ze h3 (Ze h4 (Ze h5 (Ze h6 (Ze h7 (Ze h8 (Ze h10 (rfl))))))))))))))))
end Go.Sky
end
section
namespace Go.Sky
open Go Go.Eng
theorem JK {a b:Int} (hb:0<b) (ha:-9223372036854775807≤a∧a≤9223372036854775807):YL a b=(a/b,0):=by
 unfold YL
 have e0:(b==0)=false:=by simp;omega
 have e1:(a==(-9223372036854775808))=false:=by simp;omega
 have e2:decide (b<0)=false:=by simp;omega
 simp only[e0,e1,e2,gL,cond_false]
 by_cases h:0≤a
 ·have e3:decide (a<0)=false:=by simp;omega
  have hw:w64 (a/b)=a/b:=Zt (by have:=WO h hb;omega)
  simp[e3,UA b h,hw]
 ·have e3:decide (a<0)=true:=by simp;omega
  have hq:=WO (a:=-a) (b:=b) (by omega) hb
  have hm:a=b*(a/b)+a%b:=(cS a b).symm
  have hn:-a=b*(-a/b) + -a%b:=(cS (-a) b).symm
  have r1:=eO a (show b≠0 by omega)
  have r2:=eJ a hb
  have r3:=eO (-a) (show b≠0 by omega)
  have r4:=eJ (-a) hb
  rw[e3,PH b (by omega),PI b (by omega),Zt (x:=-(-a/b)) (by omega)]
  by_cases hz:-a%b=0
  ·have:a/b=-(-a/b):=by
    have h1:a=b*(-(-a/b)):=by rw[fW];omega
    have h2:a/b=-(-a/b):=by
     conv=>lhs;rw[h1]
     exact Int.mul_ediv_cancel_left _ (by omega)
    exact h2
   have e4:((-(-a%b)) != 0)=false:=by rw[hz];rfl
   rw[e4]
   simp only[gL,cond_false,this]
  ·have e4:((-(-a%b)) != 0)=true:=by simp;omega
   rw[e4]
   have e5:(true&&!(true==false))=true:=rfl
   rw[e5,cond_true]
   have:a/b=-(-a/b)-1:=by
    rw[Int.ediv_eq_iff_of_pos hb]
    rw[dS]
    constructor
    ·rw[gO,fW];omega
    ·rw[gO,fW];omega
   rw[Zt (by omega),this]
theorem VW {a b:Int} (hb:0<b) (ha:-9223372036854775807≤a∧a≤9223372036854775806):X1 a b=(-(-a/b),0):=by
 unfold X1
 simp only[JK hb (show -9223372036854775807≤a∧a≤9223372036854775807 by omega),beq_self_eq_true,cond_true]
 have hm:a=b*(a/b)+a%b:=(cS a b).symm
 have r1:=eO a (show b≠0 by omega)
 have r2:=eJ a hb
 have hz:a.tmod b=0↔a%b=0:=by
  rw[← Int.dvd_iff_tmod_eq_zero,← Int.dvd_iff_emod_eq_zero]
 have hle:a/b≤9223372036854775806 ∧ -9223372036854775807≤a/b:=by
  by_cases h:0≤a
  ·have:=WO h hb;omega
  ·have h1:a≤a/b:=by
    rw[eK hb]
    have:a*b≤a*1:=eG (by omega) (by omega)
    omega
   have h2:a/b<0:=Int.ediv_neg_of_neg_of_pos (by omega) hb
   omega
 by_cases h:a%b=0
 ·have e:(a.tmod b != 0)=false:=by simpa using hz.2 h
  rw[e,cond_false]
  congr 1
  have h1:-a=b*(-(a/b)):=by rw[fW];omega
  have h2:-a/b=-(a/b):=by
   conv=>lhs;rw[h1]
   exact Int.mul_ediv_cancel_left _ (by omega)
  omega
 ·have e:(a.tmod b != 0)=true:=by simpa using fun hh=>h (hz.1 hh)
  rw[e,cond_true,Zt (by omega)]
  congr 1
  have h2:-a/b=-(a/b)-1:=by
   rw[Int.ediv_eq_iff_of_pos hb,dS]
   constructor
   ·rw[gO,fW];omega
   ·rw[gO,fW];omega
  omega
end Go.Sky
namespace Go.Sky
open Go Go.Eng Go.Glue
def P.In (p:P):Prop:=-1000000≤p.X∧p.X≤1000000 ∧ -1000000≤p.Y∧p.Y≤1000000
def Zj.In (s:Zj):Prop:=(0≤s.Time∧s.Time≤200000)∧s.At.In∧(0≤s.Height∧s.Height≤60000)∧(-1≤s.Code∧s.Code≤4095)∧(0≤s.Error∧s.Error≤1000000)
def Track.In (t:Track):Prop:=(0≤t.Time∧t.Time≤200000)∧t.At.In∧(0≤t.Height∧t.Height≤60000)∧(-1≤t.Code∧t.Code≤4095)∧(0≤t.Radius∧t.Radius≤4000000)
theorem S0 {n a b:Int}:Yd n a b=decide (¬ (a≤n∧n≤b)):=by
 unfold Yd;rw[bJ];simp
theorem FG (p:P):Yj p=0∧p.In∨Yj p=4∧¬ p.In:=by
 unfold Yj P.In
 rw[XD]
 split
 ·rename_i h;simp at h;exact .inr ⟨rfl,by omega⟩
 ·rename_i h;simp at h;exact .inl ⟨rfl,by omega⟩
theorem RF {p:P}:Yj p=0↔p.In:=by
 rcases FG p with ⟨h1,h2⟩|⟨h1,h2⟩
 ·exact⟨fun _=>h2,fun _=>h1⟩
 ·exact⟨fun h=>by omega,fun h=>absurd h h2⟩
theorem VM (s:Zj):ZG s=0∧s.In∨ZG s=4∧¬ s.In:=by
 unfold ZG Zj.In
 simp only[XD,S0,decide_eq_true_eq]
 split
 ·exact .inr ⟨rfl,fun h=>by omega⟩
 ·rcases FG s.At with ⟨h1,h2⟩|⟨h1,h2⟩
  ·rw[h1,if_neg (by simp)]
   split
   ·exact .inr ⟨rfl,fun h=>by omega⟩
   ·split
    ·exact .inr ⟨rfl,fun h=>by omega⟩
    ·split
     ·exact .inr ⟨rfl,fun h=>by omega⟩
     ·exact .inl ⟨rfl,by omega,h2,by omega,by omega,by omega⟩
  ·rw[h1,if_pos (by simp)]
   exact .inr ⟨rfl,fun h=>h2 h.2.1⟩
theorem Jo {s:Zj}:ZG s=0↔s.In:=by
 rcases VM s with ⟨h1,h2⟩|⟨h1,h2⟩
 ·exact⟨fun _=>h2,fun _=>h1⟩
 ·exact⟨fun h=>by omega,fun h=>absurd h h2⟩
theorem U2 (t:Track):Yt t=0∧t.In∨Yt t=4∧¬ t.In:=by
 unfold Yt Track.In
 simp only[XD]
 rcases VM ⟨t.Time,t.At,t.Height,t.Code,0⟩ with ⟨h1,h2⟩|⟨h1,h2⟩
 ·rw[h1]
  obtain⟨g1,g2,g3,g4,_⟩:=h2
  split
  ·rename_i h;simp at h;exact .inr ⟨rfl,fun hh=>by omega⟩
  ·rename_i h;simp at h;exact .inl ⟨rfl,g1,g2,g3,g4,by omega⟩
 ·rw[h1,if_pos (by simp)]
  exact .inr ⟨rfl,fun hh=>h2 ⟨hh.1,hh.2.1,hh.2.2.1,hh.2.2.2.1,show (0:Int)≤0∧(0:Int)≤1000000 by decide⟩⟩
theorem G0 {x n:Int} (h:-n≤x∧x≤n):0≤x*x∧x*x≤n*n:=by
 constructor
 ·rcases fK 0 x with h0|h0
  ·exact aV h0 h0
  ·rw[← cK];exact aV (by omega) (by omega)
 ·by_cases hx:0≤x
  ·exact bP h.2 h.2 hx (by omega)
  ·have:(-x)*(-x)≤n*n:=bP (by omega) (by omega) (by omega) (by omega)
   rwa [cK] at this
theorem GN {p q:P} (hp:p.In) (hq:q.In):ZN p q=(p.X-q.X)*(p.X-q.X)+(p.Y-q.Y)*(p.Y-q.Y)∧0≤ZN p q∧ZN p q≤8000000000000:=by
 obtain⟨p1,p2,p3,p4⟩:=hp
 obtain⟨q1,q2,q3,q4⟩:=hq
 have b1:=G0 (x:=p.X-q.X) (n:=2000000) (by omega)
 have b2:=G0 (x:=p.Y-q.Y) (n:=2000000) (by omega)
 have e:ZN p q=(p.X-q.X)*(p.X-q.X)+(p.Y-q.Y)*(p.Y-q.Y):=by
  show w64 (w64 (w64 (p.X-q.X)*w64 (p.X-q.X))+w64 (w64 (p.Y-q.Y)*w64 (p.Y-q.Y)))=_
  rw[Zt (x:=p.X-q.X) (by omega),Zt (x:=p.Y-q.Y) (by omega),Zt (x:=(p.X-q.X)*(p.X-q.X)) (by omega),Zt (x:=(p.Y-q.Y)*(p.Y-q.Y)) (by omega),Zt (by omega)]
 exact⟨e,by omega,by omega⟩
theorem PL {a b c d R S:Int} (hR:0≤R) (hS:0≤S) (h1:a*a+b*b≤R*R) (h2:c*c+d*d≤S*S):(a+c)*(a+c)+(b+d)*(b+d)≤(R+S)*(R+S):=by
 have key:a*c+b*d≤R*S:=by
  rcases dC (R*S) (a*c+b*d) with h|h
  ·exfalso
   have hRS:0≤R*S:=aV hR hS
   have e1:(a*c+b*d)*(a*c+b*d)+(a*d-b*c)*(a*d-b*c)=(a*a+b*b)*(c*c+d*d):=by grind
   have e2:0≤(a*d-b*c)*(a*d-b*c):=by
    rcases fK 0 (a*d-b*c) with g|g
    ·exact aV g g
    ·rw[← cK];exact aV (by omega) (by omega)
   have n1:∀ x:Int,0≤x*x:=fun x=>by
    rcases fK 0 x with g|g
    ·exact aV g g
    ·rw[← cK];exact aV (by omega) (by omega)
   have e3:(a*a+b*b)*(c*c+d*d)≤(R*R)*(S*S):=bP h1 h2 (by have:=n1 c;have:=n1 d;omega) (n1 R)
   have e4:(R*R)*(S*S)=(R*S)*(R*S):=by grind
   have e5:(R*S+1)*(R*S+1)≤(a*c+b*d)*(a*c+b*d):=bP (by omega) (by omega) (by omega) (by omega)
   have e6:(R*S+1)*(R*S+1)=(R*S)*(R*S)+2*(R*S)+1:=by grind
   omega
  ·exact h
 have e7:(a+c)*(a+c)+(b+d)*(b+d)=(a*a+b*b)+(c*c+d*d)+2*(a*c+b*d):=by grind
 have e8:(R+S)*(R+S)=R*R+S*S+2*(R*S):=by grind
 omega
theorem within_iff {p q:P} {d:Int} (hp:p.In) (hq:q.In) (hd:-9000000≤d∧d≤9000000):ZX p q d=decide ((0≤d∧d≤8000000)∧(p.X-q.X)*(p.X-q.X)+(p.Y-q.Y)*(p.Y-q.Y)≤d*d):=by
 have hs:=G0 hd
 unfold ZX
 simp only[(GN hp hq).1,Zt (x:=d*d) (by omega)]
 by_cases h:0≤d∧d≤8000000
 ·have e:((decide (d≥0))&&(decide (d≤8000000)))=true:=by simp;omega
  rw[e,cond_true,bJ];simp only[decide_eq_true_eq]
  exact⟨fun g=>⟨h,g⟩,fun g=>g.2⟩
 ·have e:((decide (d≥0))&&(decide (d≤8000000)))=false:=by simp;omega
  rw[e,cond_false]
  exact(decide_eq_false (fun g=>h g.1)).symm
end Go.Sky
namespace Go.Sky
open Go Go.Eng Go.Glue
def Za.In (f:Za):Prop :=
 f.Track.In∧(-12800≤f.Track.Speed.X∧f.Track.Speed.X≤12800)∧(-12800≤f.Track.Speed.Y∧f.Track.Speed.Y≤12800)∧(-3200≤f.Track.Rate∧f.Track.Rate≤3200)∧(0≤f.Slack∧f.Slack≤409600)
  ∧ (0≤f.Track.ID∧0≤f.Track.Hits∧0≤f.Track.Misses)∧(0≤f.Track.State∧f.Track.State≤2)∧f.Last.In∧f.Last.Time≤f.Track.Time
theorem VX {n a b:Int}:Yw n a b=decide (¬ (a≤n∧n≤b)):=by
 unfold Yw;rw[bJ];simp
theorem Ln (f:Za):ZP f=0∧f.In∨(ZP f=1∨ZP f=4∨ZP f=12)∧¬ f.In:=by
 unfold ZP Za.In
 simp only[XD,VX,decide_eq_true_eq]
 rcases U2 f.Track with ⟨h1,h2⟩|⟨h1,h2⟩
 ·rw[h1,if_neg (by simp)]
  split
  ·exact .inr ⟨by simp,fun h=>by omega⟩
  ·split
   ·exact .inr ⟨by simp,fun h=>by omega⟩
   ·split
    ·exact .inr ⟨by simp,fun h=>by omega⟩
    ·split
     ·rename_i h;simp at h;exact .inr ⟨by simp,fun h=>by omega⟩
     ·rename_i h7;simp at h7
      split
      ·exact .inr ⟨by simp,fun h=>by omega⟩
      ·rcases VM f.Last with ⟨h3,h4⟩|⟨h3,h4⟩
       ·rw[h3,if_neg (by simp)]
        split
        ·exact .inr ⟨by simp,fun h=>by omega⟩
        ·exact .inl ⟨rfl,h2,by omega,by omega,by omega,by omega,by omega,by omega,h4,by omega⟩
       ·rw[h3,if_pos (by simp)]
        exact .inr ⟨by simp,fun h=>h4 h.2.2.2.2.2.2.2.1⟩
 ·rw[h1,if_pos (by simp)]
  exact .inr ⟨by simp,fun h=>h2 h.1⟩
theorem J4 {f:Za}:ZP f=0↔f.In:=by
 rcases Ln f with ⟨h1,h2⟩|⟨h1,h2⟩
 ·exact⟨fun _=>h2,fun _=>h1⟩
 ·exact⟨fun h=>by omega,fun h=>absurd h h2⟩
theorem RG {f:Za} {t a:Int} (h:(Z5 f t a).2=0):(Z5 f t a).1.In:=by
 unfold Z5 at h ⊢
 simp only[XD] at h ⊢
 by_cases h1:(ZP f != 0)=true
 ·rw[if_pos h1] at h;simp at h h1;exact absurd h h1
 ·rw[if_neg h1] at h ⊢
  have hc:f.In:=J4.1 (by simpa using h1)
  by_cases h2:Yw t 0 200000=true
  ·rw[if_pos h2] at h;cases h
  ·rw[if_neg h2] at h ⊢
   by_cases h3:Yw a 0 20=true
   ·rw[if_pos h3] at h;cases h
   ·rw[if_neg h3] at h ⊢
    by_cases h4:Yw (w64 (t-f.Track.Time)) 0 600=true
    ·rw[if_pos h4] at h;cases h
    ·rw[if_neg h4] at h ⊢
     by_cases h5:(w64 (t-f.Track.Time)==0)=true
     ·rw[if_pos h5];exact hc
     ·rw[if_neg h5] at h ⊢
      generalize hg:(⟨⟨f.Track.ID,f.Track.State,t,Jr f.Track.At ⟨Yu (w64 (f.Track.Speed.X*w64 (t-f.Track.Time))) 16,Yu (w64 (f.Track.Speed.Y*w64 (t-f.Track.Time))) 16⟩,f.Track.Speed,XY (w64 (f.Track.Height+Yu (w64 (f.Track.Rate*w64 (t-f.Track.Time))) 16)) 0 60000,f.Track.Rate,w64 (f.Track.Radius+(Jv f.Slack a (w64 (t-f.Track.Time))).1),f.Track.Code,f.Track.Hits,f.Track.Misses⟩,w64 (f.Slack+w64 (w64 (16*a)*w64 (t-f.Track.Time))),f.Last⟩:Za)=g at h ⊢
      by_cases h6:(ZP g != 0)=true
      ·rw[if_pos h6] at h;cases h
      ·rw[if_neg h6];exact J4.1 (by simpa using h6)
end Go.Sky
end
section
namespace Go.Sky
open Go Go.Eng Go.Glue
def grow (slack acc d:Int):Int:=-(-(slack*d)/16) + -(-(acc*d*d)/2)+2
def YM (f:Za) (t acc:Int):Za :=
 ⟨⟨f.Track.ID,f.Track.State,t,⟨f.Track.At.X+f.Track.Speed.X*(t-f.Track.Time)/16,f.Track.At.Y+f.Track.Speed.Y*(t-f.Track.Time)/16⟩,f.Track.Speed,
  XY (f.Track.Height+f.Track.Rate*(t-f.Track.Time)/16) 0 60000,f.Track.Rate,f.Track.Radius+grow f.Slack acc (t-f.Track.Time),f.Track.Code,f.Track.Hits,f.Track.Misses⟩,
  f.Slack+16*acc*(t-f.Track.Time),f.Last⟩
theorem Tu {a b A B:Int} (ha:-A≤a∧a≤A) (hb:0≤b∧b≤B):-(A*B)≤a*b∧a*b≤A*B:=by
 have hA:0≤A:=by omega
 have h1:a*b≤A*b:=aY ha.2 hb.1
 have h2:-A*b≤a*b:=aY ha.1 hb.1
 have h3:A*b≤A*B:=bM hb.2 hA
 rw[Int.neg_mul] at h2
 omega
theorem Vb {a b A B:Int} (ha:0≤a∧a≤A) (hb:0≤b∧b≤B):0≤a*b∧a*b≤A*B :=
 ⟨aV ha.1 hb.1,bP ha.2 hb.2 hb.1 (by omega)⟩
theorem Nz {slack acc d:Int} (hs:0≤slack∧slack≤409600) (ha:0≤acc∧acc≤20) (hd:0≤d∧d≤600):2≤grow slack acc d∧grow slack acc d≤20000000:=by
 have h1:=Vb hs hd
 have h2:=Vb (Vb ha hd) hd
 unfold grow
 omega
theorem PM {slack acc d:Int} (hs:0≤slack∧slack≤409600) (ha:0≤acc∧acc≤20) (hd:1≤d∧d≤600):Jv slack acc d=(grow slack acc d,0):=by
 have hd0:0≤d∧d≤600:=by omega
 have h1:=Vb hs hd0
 have h2:=Vb ha hd0
 have h3:=Vb h2 hd0
 have hg:=Nz hs ha hd0
 unfold Jv
 have e1:((((decide (slack<0))||(decide (slack>409600)))||(decide (acc<0)))||(decide (acc>20)))=false:=by simp;omega
 have e2:((decide (d<0))||(decide (d>600)))=false:=by simp;omega
 have e3:(d==0)=false:=by simp;omega
 simp only[e1,e2,e3,cond_false]
 rw[Zt (x:=slack*d) (by omega),Zt (x:=acc*d) (by omega),Zt (x:=acc*d*d) (by omega),VW (by decide) (by omega),VW (by decide) (by omega)]
 unfold grow at hg ⊢
 simp only
 rw[Zt (x:=-(-(slack*d)/16) + -(-(acc*d*d)/2)) (by omega),Zt (by omega)]
theorem RH {f:Za} {t a:Int} (hf:f.In) (ht:0≤t∧t≤200000) (ha:0≤a∧a≤20) (hd:1≤t-f.Track.Time∧t-f.Track.Time≤600) :
  ((Z5 f t a).2=0∧(Z5 f t a).1=YM f t a∧(YM f t a).In)∨((Z5 f t a).2=8∧¬ (YM f t a).In):=by
 have hd0:0≤t-f.Track.Time∧t-f.Track.Time≤600:=by omega
 have htt:=hf.1.1
 have hx:=hf.1.2.1
 have s1:=Tu hf.2.1 hd0
 have s2:=Tu hf.2.2.1 hd0
 have s3:=Tu hf.2.2.2.1 hd0
 have s4:=Vb ha hd0
 have hh:=hf.1.2.2.1
 have hr:=hf.1.2.2.2.2
 have hg:=Nz hf.2.2.2.2.1 ha hd0
 have hsl:=hf.2.2.2.2.1
 unfold P.In at hx
 unfold Z5
 simp only[XD,VX,decide_eq_true_eq]
 rw[if_neg (by simp[J4.2 hf]),if_neg (fun hh=>hh ht),if_neg (fun hh=>hh ha),Zt (x:=t-f.Track.Time) (by omega),if_neg (fun hh=>hh hd0),if_neg (by simp;omega)]
 have k1:Yu (w64 (f.Track.Speed.X*(t-f.Track.Time))) 16=f.Track.Speed.X*(t-f.Track.Time)/16:=by
  unfold Yu;rw[Zt (by omega),JK (by decide) (by omega)]
 have k2:Yu (w64 (f.Track.Speed.Y*(t-f.Track.Time))) 16=f.Track.Speed.Y*(t-f.Track.Time)/16:=by
  unfold Yu;rw[Zt (by omega),JK (by decide) (by omega)]
 have k3:Yu (w64 (f.Track.Rate*(t-f.Track.Time))) 16=f.Track.Rate*(t-f.Track.Time)/16:=by
  unfold Yu;rw[Zt (by omega),JK (by decide) (by omega)]
 have k4:Jr f.Track.At ⟨f.Track.Speed.X*(t-f.Track.Time)/16,f.Track.Speed.Y*(t-f.Track.Time)/16⟩=⟨f.Track.At.X+f.Track.Speed.X*(t-f.Track.Time)/16,f.Track.At.Y+f.Track.Speed.Y*(t-f.Track.Time)/16⟩:=by
  unfold Jr
  simp only
  rw[Zt (x:=f.Track.At.X+_) (by omega),Zt (x:=f.Track.At.Y+_) (by omega)]
 have k5:16*a*(t-f.Track.Time)=16*(a*(t-f.Track.Time)):=fR ..
 rw[k1,k2,k3,k4,PM hf.2.2.2.2.1 ha hd]
 simp only
 rw[Zt (x:=f.Track.Height+_) (by omega),Zt (x:=f.Track.Radius+_) (by omega),Zt (x:=16*a) (by omega),Zt (x:=16*a*_) (by omega),Zt (x:=f.Slack+_) (by omega)]
 have goal:∀ r:Za×Int,r=(if (ZP (YM f t a) != 0)=true then (Za.zero,8) else (YM f t a,0))→(r.2=0∧r.1=YM f t a∧(YM f t a).In)∨(r.2=8∧¬ (YM f t a).In):=by
  rintro r rfl
  rcases Ln (YM f t a) with ⟨c1,c2⟩|⟨c1,c2⟩
  ·rw[if_neg (by simp[c1])]
   exact .inl ⟨rfl,rfl,c2⟩
  ·rw[if_pos (by simp;omega)]
   exact .inr ⟨rfl,c2⟩
 exact goal _ rfl
def Ji (x y R:Int):Prop:=0≤R∧x*x+y*y≤R*R
theorem Ji.add {x y R a b S:Int} (h:Ji x y R) (g:Ji a b S):Ji (x+a) (y+b) (R+S):=⟨by have:=h.1;have:=g.1;omega,PL h.1 g.1 h.2 g.2⟩
theorem Ji.mono {x y R S:Int} (h:Ji x y R) (hs:R≤S):Ji x y S:=⟨by have:=h.1;omega,by have:=bP hs hs h.1 (by have:=h.1;omega:(0:Int)≤S);have:=h.2;omega⟩
theorem Ji.scale {x y R k:Int} (h:Ji x y R) (hk:0≤k):Ji (k*x) (k*y) (k*R):=by
 refine⟨aV hk h.1,?_⟩
 have e1:k*x*(k*x)+k*y*(k*y)=k*k*(x*x+y*y):=by grind
 have e2:k*R*(k*R)=k*k*(R*R):=by grind
 rw[e1,e2]
 exact bM h.2 (aV hk hk)
theorem Ji.unscale {x y R k:Int} (hk:0<k) (h:Ji (k*x) (k*y) (k*R)):Ji x y R:=by
 have h0:0≤R:=by
  rcases dC R 0 with g|g
  ·have:=fA hk g
   have:=h.1
   omega
  ·exact g
 refine⟨h0,?_⟩
 have e1:k*x*(k*x)+k*y*(k*y)=k*k*(x*x+y*y):=by grind
 have e2:k*R*(k*R)=k*k*(R*R):=by grind
 have h2:=h.2
 rw[e1,e2] at h2
 exact fB h2 (gP hk hk)
theorem Ji.box {x y b R:Int} (hx:-b≤x∧x≤b) (hy:-b≤y∧y≤b) (hR:0≤R) (h:2*(b*b)≤R*R):Ji x y R:=⟨hR,by have:=G0 hx;have:=G0 hy;omega⟩
theorem Ji.neg {x y R:Int} (h:Ji x y R):Ji (-x) (-y) R:=⟨h.1,by rw[cK,cK];exact h.2⟩
theorem Ji.abs {x y R:Int} (h:Ji x y R):(-R≤x∧x≤R)∧(-R≤y∧y≤R):=by
 have nn:∀ z:Int,0≤z*z:=fun z=>by
  rcases fK 0 z with g|g
  ·exact aV g g
  ·rw[← cK];exact aV (by omega) (by omega)
 have key:∀ z:Int,z*z≤R*R → -R≤z∧z≤R:=by
  intro z hz
  have h0:=h.1
  constructor
  ·rcases dC z (-R) with g|g
   ·have:(R+1)*(R+1)≤(-z)*(-z):=bP (by omega) (by omega) (by omega) (by omega)
    rw[cK] at this
    have e:(R+1)*(R+1)=R*R+2*R+1:=by grind
    omega
   ·exact g
  ·rcases dC R z with g|g
   ·have:(R+1)*(R+1)≤z*z:=bP (by omega) (by omega) (by omega) (by omega)
    have e:(R+1)*(R+1)=R*R+2*R+1:=by grind
    omega
   ·exact g
 have n1:=nn x
 have n2:=nn y
 have h2:=h.2
 exact⟨key x (by omega),key y (by omega)⟩
structure Run (x v:Nat→P) (qg:Int) (K:Nat):Prop where
 acc:0≤qg∧qg≤1000
 vel:∀ k,k≤K→(-200≤(v k).X∧(v k).X≤200)∧(-200≤(v k).Y∧(v k).Y≤200)
 pos:∀ k,k≤K→(-112000≤(x k).X∧(x k).X≤112000)∧(-112000≤(x k).Y∧(x k).Y≤112000)
 step:∀ k,k<K→(x (k+1)).X=(x k).X+(v k).X∧(x (k+1)).Y=(x k).Y+(v k).Y
 turn:∀ k,k<K→Ji ((v (k+1)).X-(v k).X) ((v (k+1)).Y-(v k).Y) qg
theorem Run.veld {x v:Nat→P} {qg:Int} {K:Nat} (h:Run x v qg K) (t:Nat):∀ d:Nat,t+d≤K→Ji ((v (t+d)).X-(v t).X) ((v (t+d)).Y-(v t).Y) (qg*(d:Int))
 | 0,_=>by
  rw[bZ,dD,dD]
  exact Ji.box (b:=0) (by omega) (by omega) (by simp) (by simp)
 | d+1,hd=>by
  have ih:=Run.veld h t d (by omega)
  have s:=ih.add (h.turn (t+d) (by omega))
  rw[show (v (t+d)).X-(v t).X+((v (t+d+1)).X-(v (t+d)).X)=(v (t+d+1)).X-(v t).X by omega,show (v (t+d)).Y-(v t).Y+((v (t+d+1)).Y-(v (t+d)).Y)=(v (t+d+1)).Y-(v t).Y by omega] at s
  rw[show t+(d+1)=t+d+1 by omega,show qg*((d+1:Nat):Int)=qg*(d:Int)+qg by rw[dI,Int.mul_add,iA]]
  exact s
theorem Run.ahead {x v:Nat→P} {qg:Int} {K:Nat} (h:Run x v qg K) (t:Nat):∀ d:Nat,t+d≤K →
  Ji (2*((x (t+d)).X-(x t).X-(d:Int)*(v t).X)) (2*((x (t+d)).Y-(x t).Y-(d:Int)*(v t).Y)) (qg*(d:Int)*((d:Int)-1))
 | 0,_=>by
  rw[bZ]
  refine Ji.box (b:=0) (by simp) (by simp) (by simp) (by simp)
 | d+1,hd=>by
  have ih:=Run.ahead h t d (by omega)
  have s:=ih.add ((Run.veld h t d (by omega)).scale (k:=2) (by omega))
  obtain⟨e1,e2⟩:=h.step (t+d) (by omega)
  rw[show t+(d+1)=t+d+1 by omega,e1,e2]
  have f1:2*((x (t+d)).X-(x t).X-(d:Int)*(v t).X)+2*((v (t+d)).X-(v t).X)=2*((x (t+d)).X+(v (t+d)).X-(x t).X-((d+1:Nat):Int)*(v t).X):=by rw[dI,iB];omega
  have f2:2*((x (t+d)).Y-(x t).Y-(d:Int)*(v t).Y)+2*((v (t+d)).Y-(v t).Y)=2*((x (t+d)).Y+(v (t+d)).Y-(x t).Y-((d+1:Nat):Int)*(v t).Y):=by rw[dI,iB];omega
  have f3:qg*(d:Int)*((d:Int)-1)+2*(qg*(d:Int))=qg*((d+1:Nat):Int)*(((d+1:Nat):Int)-1):=by rw[dI];grind
  rw[f1,f2,f3] at s
  exact s
theorem Run.behind {x v:Nat→P} {qg:Int} {K:Nat} (h:Run x v qg K) (t:Nat):∀ d:Nat,t+d≤K →
  Ji (2*((x (t+d)).X-(x t).X-(d:Int)*(v (t+d)).X)) (2*((x (t+d)).Y-(x t).Y-(d:Int)*(v (t+d)).Y)) (qg*(d:Int)*((d:Int)+1))
 | 0,_=>by
  rw[bZ]
  refine Ji.box (b:=0) (by simp) (by simp) (by simp) (by simp)
 | d+1,hd=>by
  have ih:=Run.behind h t d (by omega)
  have s:=ih.add ((h.turn (t+d) (by omega)).neg.scale (k:=2*((d:Int)+1)) (by omega))
  obtain⟨e1,e2⟩:=h.step (t+d) (by omega)
  rw[show t+(d+1)=t+d+1 by omega,e1,e2]
  have f1:2*((x (t+d)).X-(x t).X-(d:Int)*(v (t+d)).X)+2*((d:Int)+1) * -((v (t+d+1)).X-(v (t+d)).X)=2*((x (t+d)).X+(v (t+d)).X-(x t).X-((d+1:Nat):Int)*(v (t+d+1)).X):=by rw[dI];grind
  have f2:2*((x (t+d)).Y-(x t).Y-(d:Int)*(v (t+d)).Y)+2*((d:Int)+1) * -((v (t+d+1)).Y-(v (t+d)).Y)=2*((x (t+d)).Y+(v (t+d)).Y-(x t).Y-((d+1:Nat):Int)*(v (t+d+1)).Y):=by rw[dI];grind
  have f3:qg*(d:Int)*((d:Int)+1)+2*((d:Int)+1)*qg=qg*((d+1:Nat):Int)*(((d+1:Nat):Int)+1):=by rw[dI];grind
  rw[f1,f2,f3] at s
  exact s
def Knows (f:Za) (p v:P):Prop :=
 Ji (f.Track.At.X-p.X) (f.Track.At.Y-p.Y) f.Track.Radius∧Ji (f.Track.Speed.X-16*v.X) (f.Track.Speed.Y-16*v.Y) f.Slack
theorem Fg {x v:Nat→P} {qg:Int} {K:Nat} (h:Run x v qg K) {f:Za} {t d:Nat} (hk:Knows f (x t) (v t)) (ht:f.Track.Time=(t:Int)) (hd:t+d≤K) (hd1:1≤d) :
  Knows (YM f ((t+d:Nat):Int) qg) (x (t+d)) (v (t+d)):=by
 have e0:((t+d:Nat):Int)-f.Track.Time=(d:Int):=by omega
 have ha:=h.acc
 obtain⟨k1,k2⟩:=hk
 have vd:=h.veld t d hd
 have xd:=h.ahead t d hd
 constructor
 ·unfold YM
  simp only[e0]
  obtain⟨rx,hrx⟩:∃ r,r=f.Track.Speed.X*(d:Int)%16:=⟨_,rfl⟩
  obtain⟨ry,hry⟩:∃ r,r=f.Track.Speed.Y*(d:Int)%16:=⟨_,rfl⟩
  have brx:0≤rx∧rx≤15:=by omega
  have bry:0≤ry∧ry≤15:=by omega
  have b1:=k1.scale (k:=16) (by omega)
  have b2:=k2.scale (k:=(d:Int)) (by omega)
  have b3:Ji (-rx) (-ry) 32:=Ji.box (b:=15) (by omega) (by omega) (by omega) (by decide)
  have b4:=xd.neg.scale (k:=8) (by omega)
  have b:=((b1.add b2).add b3).add b4
  have q1:f.Track.Speed.X*(d:Int)=16*(f.Track.Speed.X*(d:Int)/16)+rx:=by omega
  have q2:f.Track.Speed.Y*(d:Int)=16*(f.Track.Speed.Y*(d:Int)/16)+ry:=by omega
  have g1:16*(f.Track.At.X-(x t).X)+(d:Int)*(f.Track.Speed.X-16*(v t).X) + -rx+8 * -(2*((x (t+d)).X-(x t).X-(d:Int)*(v t).X))=16*(f.Track.At.X+f.Track.Speed.X*(d:Int)/16-(x (t+d)).X):=by
   have e:(d:Int)*(f.Track.Speed.X-16*(v t).X)=f.Track.Speed.X*(d:Int)-16*((d:Int)*(v t).X):=by grind
   omega
  have g2:16*(f.Track.At.Y-(x t).Y)+(d:Int)*(f.Track.Speed.Y-16*(v t).Y) + -ry+8 * -(2*((x (t+d)).Y-(x t).Y-(d:Int)*(v t).Y))=16*(f.Track.At.Y+f.Track.Speed.Y*(d:Int)/16-(x (t+d)).Y):=by
   have e:(d:Int)*(f.Track.Speed.Y-16*(v t).Y)=f.Track.Speed.Y*(d:Int)-16*((d:Int)*(v t).Y):=by grind
   omega
  rw[g1,g2] at b
  refine Ji.unscale (k:=16) (by decide) (b.mono ?_)
  unfold grow
  have m1:0≤qg*(d:Int):=aV ha.1 (by omega)
  have m2:qg*(d:Int)*((d:Int)-1)=qg*(d:Int)*(d:Int)-qg*(d:Int):=by rw[gO,iA]
  have m3:(d:Int)*f.Slack=f.Slack*(d:Int):=dS ..
  omega
 ·unfold YM
  simp only[e0]
  have b:=k2.add (vd.neg.scale (k:=16) (by omega))
  have g1:f.Track.Speed.X-16*(v t).X+16 * -((v (t+d)).X-(v t).X)=f.Track.Speed.X-16*(v (t+d)).X:=by omega
  have g2:f.Track.Speed.Y-16*(v t).Y+16 * -((v (t+d)).Y-(v t).Y)=f.Track.Speed.Y-16*(v (t+d)).Y:=by omega
  rw[g1,g2,show f.Slack+16*(qg*(d:Int))=f.Slack+16*qg*(d:Int) by rw[fR]] at b
  exact b
theorem Lo {ax ay bx b_y x y g A B:Int} (hA:Ji (ax-x) (ay-y) A) (hB:Ji (bx-x) (b_y-y) B) (hg:0≤g∧g≤256) :
  Ji (ax+(bx-ax)*g/256-x) (ay+(b_y-ay)*g/256-y) (-(-((256-g)*A+g*B)/256)+2):=by
 obtain⟨rx,hrx⟩:∃ r,r=(bx-ax)*g%256:=⟨_,rfl⟩
 obtain⟨ry,hry⟩:∃ r,r=(b_y-ay)*g%256:=⟨_,rfl⟩
 have b3:Ji (-rx) (-ry) 512:=Ji.box (b:=255) (by omega) (by omega) (by omega) (by decide)
 have b:=((hA.scale (k:=256-g) (by omega)).add (hB.scale (k:=g) hg.1)).add b3
 have g1:(256-g)*(ax-x)+g*(bx-x) + -rx=256*(ax+(bx-ax)*g/256-x):=by
  have e:(256-g)*(ax-x)+g*(bx-x)=256*(ax-x)+(bx-ax)*g:=by grind
  omega
 have g2:(256-g)*(ay-y)+g*(b_y-y) + -ry=256*(ay+(b_y-ay)*g/256-y):=by
  have e:(256-g)*(ay-y)+g*(b_y-y)=256*(ay-y)+(b_y-ay)*g:=by grind
  omega
 rw[g1,g2] at b
 exact Ji.unscale (k:=256) (by decide) (b.mono (by omega))
theorem S1 {x v:Nat→P} {qg:Int} {K:Nat} (h:Run x v qg K) {t d:Nat} (hd:t+d≤K) (hd1:1≤d) {s l:P} {E L:Int} (hs:Ji (s.X-(x (t+d)).X) (s.Y-(x (t+d)).Y) E) (hl:Ji (l.X-(x t).X) (l.Y-(x t).Y) L) :
  Ji (16*(s.X-l.X)/(d:Int)-16*(v (t+d)).X) (16*(s.Y-l.Y)/(d:Int)-16*(v (t+d)).Y) (-(-(16*(E+L))/(d:Int))+16*qg*(d:Int)+2):=by
 have ha:=h.acc
 have hdp:(0:Int)<(d:Int):=by omega
 obtain⟨rx,hrx⟩:∃ r,r=16*(s.X-l.X)%(d:Int):=⟨_,rfl⟩
 obtain⟨ry,hry⟩:∃ r,r=16*(s.Y-l.Y)%(d:Int):=⟨_,rfl⟩
 have rx0:=eO (16*(s.X-l.X)) (show (d:Int)≠0 by omega)
 have rx1:=eJ (16*(s.X-l.X)) hdp
 have ry0:=eO (16*(s.Y-l.Y)) (show (d:Int)≠0 by omega)
 have ry1:=eJ (16*(s.Y-l.Y)) hdp
 have qx:=cS (16*(s.X-l.X)) (d:Int)
 have qy:=cS (16*(s.Y-l.Y)) (d:Int)
 rw[← hrx] at rx0 rx1 qx
 rw[← hry] at ry0 ry1 qy
 have dd:(2:Int)*((d:Int)*(d:Int))≤2*(d:Int)*(2*(d:Int)):=by
  have e:2*(d:Int)*(2*(d:Int))=4*((d:Int)*(d:Int)):=by grind
  have:=aV (show (0:Int)≤(d:Int) by omega) (show (0:Int)≤(d:Int) by omega)
  omega
 have b3:Ji (-rx) (-ry) (2*(d:Int)):=Ji.box (b:=(d:Int)) (by omega) (by omega) (by omega) dd
 have b:=(((hs.scale (k:=16) (by omega)).add (hl.neg.scale (k:=16) (by omega))).add ((h.behind t d hd).scale (k:=8) (by omega))).add b3
 have g1:16*(s.X-(x (t+d)).X)+16 * -(l.X-(x t).X)+8*(2*((x (t+d)).X-(x t).X-(d:Int)*(v (t+d)).X)) + -rx=(d:Int)*(16*(s.X-l.X)/(d:Int)-16*(v (t+d)).X):=by
  have e:(d:Int)*(16*(s.X-l.X)/(d:Int)-16*(v (t+d)).X)=(d:Int)*(16*(s.X-l.X)/(d:Int))-16*((d:Int)*(v (t+d)).X):=by grind
  omega
 have g2:16*(s.Y-(x (t+d)).Y)+16 * -(l.Y-(x t).Y)+8*(2*((x (t+d)).Y-(x t).Y-(d:Int)*(v (t+d)).Y)) + -ry=(d:Int)*(16*(s.Y-l.Y)/(d:Int)-16*(v (t+d)).Y):=by
  have e:(d:Int)*(16*(s.Y-l.Y)/(d:Int)-16*(v (t+d)).Y)=(d:Int)*(16*(s.Y-l.Y)/(d:Int))-16*((d:Int)*(v (t+d)).Y):=by grind
  omega
 rw[g1,g2] at b
 refine Ji.unscale hdp (b.mono ?_)
 have u:=cS (-(16*(E+L))) (d:Int)
 have u0:=eO (-(16*(E+L))) (show (d:Int)≠0 by omega)
 have e1:(d:Int)*(-(-(16*(E+L))/(d:Int))+16*qg*(d:Int)+2)=-((d:Int)*(-(16*(E+L))/(d:Int)))+16*(qg*(d:Int)*(d:Int))+2*(d:Int):=by grind
 have e2:qg*(d:Int)*((d:Int)+1)=qg*(d:Int)*(d:Int)+qg*(d:Int):=by rw[Int.mul_add,iA]
 have m1:qg*(d:Int)*1≤qg*(d:Int)*(d:Int):=bM (by omega) (aV ha.1 (by omega))
 rw[e1,e2]
 omega
theorem N1 {a b g:Int} (ha:-10000000≤a∧a≤10000000) (hb:-10000000≤b∧b≤10000000) (hg:0≤g∧g≤256):XW a b g=a+(b-a)*g/256:=by
 have m:=Tu (a:=b-a) (A:=20000000) (by omega) hg
 unfold XW Yu
 rw[Zt (x:=b-a) (by omega),Zt (x:=(b-a)*g) (by omega),JK (by decide) (by omega)]
 show w64 (a+(b-a)*g/256)=_
 rw[Zt (by omega)]
theorem HS {a b g lo hi:Int} (ha:lo≤a∧a≤hi) (hb:lo≤b∧b≤hi) (hg:0≤g∧g≤256):lo≤a+(b-a)*g/256∧a+(b-a)*g/256≤hi:=by
 have l1:(lo-a)*g≤(b-a)*g:=aY (by omega) hg.1
 have l2:(lo-a)*256≤(lo-a)*g:=eG (by omega) hg.2
 have u1:(b-a)*g≤(hi-a)*g:=aY (by omega) hg.1
 have u2:(hi-a)*g≤(hi-a)*256:=bM hg.2 (by omega)
 omega
theorem Iw {A B g M:Int} (hA:0≤A∧A≤M) (hB:0≤B∧B≤M) (hg:0≤g∧g≤256):(0≤(256-g)*A+g*B∧(256-g)*A+g*B≤256*M)∧0 ≤ -(-((256-g)*A+g*B)/256) ∧ -(-((256-g)*A+g*B)/256)≤M:=by
 have h1:0≤(256-g)*A:=aV (by omega) hA.1
 have h2:0≤g*B:=aV hg.1 hB.1
 have h3:(256-g)*A≤(256-g)*M:=bM hA.2 (by omega)
 have h4:g*B≤g*M:=bM hB.2 hg.1
 have h5:(256-g)*M+g*M=256*M:=by grind
 omega
theorem Tv {slack acc d S A D:Int} (hs:0≤slack∧slack≤S) (ha:0≤acc∧acc≤A) (hd:0≤d∧d≤D):grow slack acc d≤(S*d+15)/16+(A*D*d+1)/2+2:=by
 have h1:slack*d≤S*d:=aY hs.2 hd.1
 have h2:acc*d≤A*D:=(Vb ha hd).2
 have h3:acc*d*d≤A*D*d:=aY h2 hd.1
 unfold grow
 omega
def Lp (f:Za) (s:Zj) (qg pl sp d:Int):Za :=
 let p:=YM f s.Time qg
 ⟨⟨p.Track.ID,p.Track.State,s.Time,⟨p.Track.At.X+(s.At.X-p.Track.At.X)*pl/256,p.Track.At.Y+(s.At.Y-p.Track.At.Y)*pl/256⟩,
  ⟨p.Track.Speed.X+(16*(s.At.X-f.Last.At.X)/d-p.Track.Speed.X)*sp/256,p.Track.Speed.Y+(16*(s.At.Y-f.Last.At.Y)/d-p.Track.Speed.Y)*sp/256⟩,
  s.Height,0,-(-((256-pl)*p.Track.Radius+pl*s.Error)/256)+2,s.Code,p.Track.Hits+1,0⟩,
  -(-((256-sp)*p.Slack+sp*(-(-(16*(s.Error+f.Last.Error))/d)+16*qg*d+2))/256)+2,s⟩
theorem IA {f:Za} {s:Zj} {qg pl sp d:Int} (hf:f.In) (hs:s.In) (hpl:0≤pl∧pl≤256) (hsp:0≤sp∧sp≤256) (hd:s.Time-f.Last.Time=d∧1≤d∧d≤600) (yp:0≤qg∧qg≤20)
  (hp:(Z5 f s.Time qg).2=0∧(Z5 f s.Time qg).1=YM f s.Time qg∧(YM f s.Time qg).In)
  (hw:ZX (YM f s.Time qg).Track.At s.At (w64 ((YM f s.Time qg).Track.Radius+s.Error))=true)
  (hh:s.Height=f.Last.Height) (hc:s.Code ≠ -1) (hhits:f.Track.Hits≤1000000)
  (hseen:(-12800≤16*(s.At.X-f.Last.At.X)/d∧16*(s.At.X-f.Last.At.X)/d≤12800)∧(-12800≤16*(s.At.Y-f.Last.At.Y)/d∧16*(s.At.Y-f.Last.At.Y)/d≤12800))
  (hin:(Lp f s qg pl sp d).In):Yk f s qg pl sp=(Lp f s qg pl sp d,0):=by
 obtain⟨q1,q2,q3⟩:=hp
 have hla:=hf.2.2.2.2.2.2.2.1
 unfold Yk
 have c1:(ZP f != 0)=false:=by simp[J4.2 hf]
 have c2:(ZG s != 0)=false:=by simp[Jo.2 hs]
 have c3:Yw pl 0 256=false:=by rw[VX];simp;omega
 have c4:Yw sp 0 256=false:=by rw[VX];simp;omega
 have wd:w64 (s.Time-f.Last.Time)=d:=by rw[hd.1,Zt (by omega)]
 have c5:decide (d≤0)=false:=by simp;omega
 have c6:((Z5 f s.Time qg).2 != 0)=false:=by simp[q1]
 have c8:(s.Code != -1)=true:=by simpa using hc
 simp only[c1,c2,c3,c4,wd,c5,c6,c8,cond_false,cond_true,q2,hw,cD]
 obtain⟨p,hpe⟩:∃ p,p=YM f s.Time qg:=⟨_,rfl⟩
 have hpt:p.Track.Time=s.Time:=by rw[hpe];rfl
 have hph:p.Track.Hits=f.Track.Hits:=by rw[hpe];rfl
 rw[← hpe] at q3 ⊢
 obtain⟨a1,a2,a3,a4⟩:=q3.1.2.1
 obtain⟨b1,b2,b3,b4⟩:=hs.2.1
 obtain⟨l1,l2,l3,l4⟩:=hla.2.1
 have hR:=q3.1.2.2.2.2
 have hE:=hs.2.2.2.2
 have hL:=hla.2.2.2.2
 have hS:=q3.2.2.2.2.1
 have hv1:=q3.2.1
 have hv2:=q3.2.2.1
 have hhi:=hs.2.2.1
 have m1:=Vb (a:=256-pl) (b:=p.Track.Radius) (A:=256) (by omega) hR
 have m2:=Vb hpl hE
 have m3:=Vb (a:=256-sp) (b:=p.Slack) (A:=256) (by omega) hS
 have m4:=Vb yp (show 0≤d∧d≤600 by omega)
 have m5:16*qg*d=16*(qg*d):=fR ..
 have zu:=cS (-(16*(s.Error+f.Last.Error))) d
 have zq:0 ≤ -(-(16*(s.Error+f.Last.Error))/d) ∧ -(-(16*(s.Error+f.Last.Error))/d)≤32000000:=by
  have q0:-(16*(s.Error+f.Last.Error))/d≤0:=by
   have:-(16*(s.Error+f.Last.Error))/d<1:=by rw[fL (by omega)];omega
   omega
  have q1:-32000000 ≤ -(16*(s.Error+f.Last.Error))/d:=by
   rw[eK (by omega)]
   have:-32000000*d ≤ -32000000*1:=eG (by omega) (by omega)
   omega
  omega
 obtain⟨M,hM⟩:∃ M,M=-(-(16*(s.Error+f.Last.Error))/d)+16*qg*d+2:=⟨_,rfl⟩
 have hMb:0≤M∧M≤33000000:=by omega
 have m6:=Vb hsp hMb
 have r7:XW p.Track.At.X s.At.X pl=p.Track.At.X+(s.At.X-p.Track.At.X)*pl/256:=N1 (by omega) (by omega) hpl
 have r8:XW p.Track.At.Y s.At.Y pl=p.Track.At.Y+(s.At.Y-p.Track.At.Y)*pl/256:=N1 (by omega) (by omega) hpl
 have r9:Ja (w64 (w64 (w64 (256-pl)*p.Track.Radius)+w64 (pl*s.Error))) 256=-(-((256-pl)*p.Track.Radius+pl*s.Error)/256):=by
  unfold Ja
  rw[Zt (x:=256-pl) (by omega),Zt (x:=(256-pl)*p.Track.Radius) (by omega),Zt (x:=pl*s.Error) (by omega),Zt (x:=_+_) (by omega),VW (by decide) (by omega)]
 have r10:Yu (w64 (16*w64 (s.At.X-f.Last.At.X))) d=16*(s.At.X-f.Last.At.X)/d:=by
  unfold Yu
  rw[Zt (x:=s.At.X-f.Last.At.X) (by omega),Zt (x:=16*_) (by omega),JK (by omega) (by omega)]
 have r11:Yu (w64 (16*w64 (s.At.Y-f.Last.At.Y))) d=16*(s.At.Y-f.Last.At.Y)/d:=by
  unfold Yu
  rw[Zt (x:=s.At.Y-f.Last.At.Y) (by omega),Zt (x:=16*_) (by omega),JK (by omega) (by omega)]
 have r12:XW p.Track.Speed.X (16*(s.At.X-f.Last.At.X)/d) sp=p.Track.Speed.X+(16*(s.At.X-f.Last.At.X)/d-p.Track.Speed.X)*sp/256:=N1 (by omega) (by omega) hsp
 have r13:XW p.Track.Speed.Y (16*(s.At.Y-f.Last.At.Y)/d) sp=p.Track.Speed.Y+(16*(s.At.Y-f.Last.At.Y)/d-p.Track.Speed.Y)*sp/256:=N1 (by omega) (by omega) hsp
 have r14:Ja (w64 (16*w64 (s.Error+f.Last.Error))) d=-(-(16*(s.Error+f.Last.Error))/d):=by
  unfold Ja
  rw[Zt (x:=s.Error+f.Last.Error) (by omega),Zt (x:=16*_) (by omega),VW (by omega) (by omega)]
 have rM:w64 (w64 (-(-(16*(s.Error+f.Last.Error))/d)+w64 (w64 (16*qg)*d))+2)=M:=by
  rw[Zt (x:=16*qg) (by omega),Zt (x:=16*qg*d) (by omega),Zt (x:=_+16*qg*d) (by omega),Zt (by omega),hM]
 have r15:Ja (w64 (w64 (w64 (256-sp)*p.Slack)+w64 (sp*M))) 256=-(-((256-sp)*p.Slack+sp*M)/256):=by
  unfold Ja
  rw[Zt (x:=256-sp) (by omega),Zt (x:=(256-sp)*p.Slack) (by omega),Zt (x:=sp*M) (by omega),Zt (x:=_+_) (by omega),VW (by decide) (by omega)]
 have r16:XY (Yu (w64 (16*w64 (s.Height-f.Last.Height))) d) (-3200) 3200=0:=by
  rw[hh,dD,show w64 (16*w64 0)=0 by decide]
  unfold Yu
  rw[JK (by omega) (by omega)]
  show XY (0/d) (-3200) 3200=0
  rw[Int.zero_ediv];decide
 simp only[r7,r8,r9,r10,r11,r12,r13,r14,rM,r15,r16]
 rw[Zt (x:=-(-((256-pl)*p.Track.Radius+pl*s.Error)/256)+2) (by omega),Zt (x:=p.Track.Hits+1) (by have:=hf.2.2.2.2.2.1;omega),Zt (x:=-(-((256-sp)*p.Slack+sp*M)/256)+2) (by omega),hpt]
 have hU:Lp f s qg pl sp d=(⟨⟨p.Track.ID,p.Track.State,s.Time,⟨p.Track.At.X+(s.At.X-p.Track.At.X)*pl/256,p.Track.At.Y+(s.At.Y-p.Track.At.Y)*pl/256⟩,
  ⟨p.Track.Speed.X+(16*(s.At.X-f.Last.At.X)/d-p.Track.Speed.X)*sp/256,p.Track.Speed.Y+(16*(s.At.Y-f.Last.At.Y)/d-p.Track.Speed.Y)*sp/256⟩,
  s.Height,0,-(-((256-pl)*p.Track.Radius+pl*s.Error)/256)+2,s.Code,p.Track.Hits+1,0⟩,-(-((256-sp)*p.Slack+sp*M)/256)+2,s⟩:Za):=by
  rw[hM,hpe];rfl
 rw[← hU]
 have c9:(ZP (Lp f s qg pl sp d) != 0)=false:=by simp[J4.2 hin]
 rw[c9,cond_false]
end Go.Sky
end
section
namespace Go.Sky
open Go
structure Zi where
 (rules:ZB)
 (all:List followed)
 (next last:Int)
deriving DecidableEq
def Zi.zero:Zi:=⟨ZB.zero,[],0,0⟩
def Zi.k (t:Zi) (A:Option Addr) (c:Nat):Array Value:=#[.int .i64 t.rules.Need,.int .i64 t.rules.Of,.int .i64 t.rules.Misses,.int .i64 t.rules.Accel,.int .i64 t.rules.Place,.int .i64 t.rules.Speed,.slice A t.all.length c,.int .i64 t.next,.int .i64 t.last]
end Go.Sky
end
