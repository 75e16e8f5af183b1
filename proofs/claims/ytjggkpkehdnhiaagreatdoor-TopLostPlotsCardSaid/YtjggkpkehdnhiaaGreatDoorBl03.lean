/- Lemmas toward the given statement (part 3 of 20): Wa Geo Crs Trk. Each theorem states its own conditions; nothing is assumed beyond them. -/
import Derived.Test.YtjggkpkehdnhiaaGreatDoorBl02
section
namespace Go.Sky
open Go Go.Eng Go.Proofs
def ZI (n:Int) (low:Int) (high:Int):Bool :=
 (decide (n<low))||(decide (n>high))
set_option maxRecDepth 100000 in
theorem Xg (n:Int) (low:Int) (high:Int) (w:World):Calls Tryz.prog 127 #[.int .i64 n,.int .i64 low,.int .i64 high] w (Ret w (.bool (ZI n low high))):=by
 exact Zj (vs:=[.i n,.i low,.i high]) (w:=w) Tryz.func127 rfl Tryz.ntmps127 rfl (TC.sr (TL.r 1 [] [(6,.b false)] {} (TL.nr (TL.r 4 [] [(10,.b (decide (n<low)))] {} (TL.j 10 (decide (n<low)) 8 [] [] (fun β=>[(14,.b (β||(decide (n>high))))]) Kr {} {} (TL.r 9 [] [(6,.b ((decide (n<low))||(decide (n>high))))] {} (TL.next rfl (TC.ret (TE.ret [] (.b ((decide (n<low))||(decide (n>high)))) {} (by unfold ZI;refine eS (fun z=>(.b z:Value)) ?_;exact rfl))))))))))
def Yh (p:P):Int :=
 cond ((((decide (p.X<(-1000000)))||(decide (p.X>1000000)))||(decide (p.Y<(-1000000))))||(decide (p.Y>1000000))) (
  4) (
  0)
set_option maxRecDepth 100000 in
theorem Ko (p:P) (w:World):Calls Tryz.prog 47 #[P.v p] w (Ret w (.int .i64 (Yh p))):=by
 refine Zj (vs:=[P.v p]) (w:=w) Tryz.func47 rfl Tryz.ntmps47 rfl (TC.sr (TL.nw 1 (fun b1=>.p0 b1) (fun b1=>Bk b1 (P.c p) 36) (fun b1=>{}) (fun b1=>TL.r 2 [] [(2,.i 0)] {} (TL.ns (TC.sr (TL.r 4 [0] [(6,.b (decide (p.X<(-1000000))))] {} (TL.j 6 (decide (p.X<(-1000000))) 8 [] [0] (fun β=>[(10,.b (β||(decide (p.X>1000000))))]) Kr {} {} (TL.r 9 [] [(11,.b ((decide (p.X<(-1000000)))||(decide (p.X>1000000))))] {} (TL.j 11 ((decide (p.X<(-1000000)))||(decide (p.X>1000000))) 13 [] [0] (fun β=>[(15,.b (β||(decide (p.Y<(-1000000)))))]) Kr {} {} (TL.r 14 [] [(16,.b (((decide (p.X<(-1000000)))||(decide (p.X>1000000)))||(decide (p.Y<(-1000000)))))] {} (TL.j 16 (((decide (p.X<(-1000000)))||(decide (p.X>1000000)))||(decide (p.Y<(-1000000)))) 18 [] [0] (fun β=>[(20,.b (β||(decide (p.Y>1000000))))]) Kr {} {} (TL.next rfl (TC.cond ((((decide (p.X<(-1000000)))||(decide (p.X>1000000)))||(decide (p.Y<(-1000000))))||(decide (p.Y>1000000))) rfl Kr (fun h1=>?_) (fun h1=>?_))))))))))))))
 ·exact TC.sr (TL.r 1 [] [(2,.i 4)] {} (TL.next rfl (TC.ret (TE.rt (TE.ret [] (.i 4) {} (by unfold Yh;refine eS (fun z=>(.i z:Value)) ?_;exact Zi h1 (rfl)))))))
 ·exact TC.snr (TL.r 1 [] [(2,.i 0)] {} (TL.next rfl (TC.ret (TE.ret [] (.i 0) {} (by unfold Yh;refine eS (fun z=>(.i z:Value)) ?_;exact Zb h1 (rfl))))))
def Zz (s:Zf):Int :=
 let r1:=ZI s.Time 0 200000
 cond r1 (
  4) (
  let r2:=Yh s.At
  cond (r2 != 0) (
   4) (
   let r3:=ZI s.Height 0 60000
   cond r3 (
    4) (
    let r4:=ZI s.Code (-1) 4095
    cond r4 (
     4) (
     let r5:=ZI s.Error 0 1000000
     cond r5 (
      4) (
      0)))))
set_option maxRecDepth 100000 in
theorem Xq (s:Zf) (w:World):Calls Tryz.prog 70 #[Zf.v s] w (Ret w (.int .i64 (Zz s))):=by
 refine Zj (vs:=[Zf.v s]) (w:=w) Tryz.func70 rfl Tryz.ntmps70 rfl (TC.sr (TL.nw 1 (fun b1=>.p0 b1) (fun b1=>Bk b1 (Zf.c s) 42) (fun b1=>{}) (fun b1=>TL.r 2 [] [(2,.i 0)] {} (TL.ns (TC.sr (TL.r 2 [0] [(4,.i s.Time)] {} (TL.c 5 (ZI s.Time 0 200000) (fun r1=>.b r1) (fun w _=>Xg s.Time 0 200000 w) {} (fun r1 hr1=>TL.r 4 [] [(6,.b r1)] {} (TL.split 6 r1 Kr (fun h1=>?_) (fun h1=>?_))))))))))
 ·exact TL.r 24 [] [(26,.b true)] {} (TL.next rfl (TC.condT rfl Kr (TC.sr (TL.r 1 [] [(2,.i 4)] {} (TL.next rfl (TC.ret (TE.rt (TE.ret [] (.i 4) {} (by unfold Zz;refine eS (fun z=>(.i z:Value)) ?_;subst hr1;exact Zi h1 (rfl))))))))))
 ·refine TL.r 6 [0] [(8,P.v s.At)] {} (TL.c 9 (Yh s.At) (fun r2=>.i r2) (fun w _=>Ko s.At w) {} (fun r2 hr2=>TL.r 10 [] [(12,.b (r2 != 0))] {} (TL.split 12 (r2 != 0) Kr (fun h2=>?_) (fun h2=>?_))))
  ·exact TL.r 24 [] [(26,.b true)] {} (TL.next rfl (TC.condT rfl Kr (TC.sr (TL.r 1 [] [(2,.i 4)] {} (TL.next rfl (TC.ret (TE.rt (TE.ret [] (.i 4) {} (by unfold Zz;refine eS (fun z=>(.i z:Value)) ?_;subst hr1 hr2;exact Zb h1 (Zi h2 (rfl)))))))))))
  ·refine TL.r 12 [0] [(14,.i s.Height)] {} (TL.c 15 (ZI s.Height 0 60000) (fun r3=>.b r3) (fun w _=>Xg s.Height 0 60000 w) {} (fun r3 hr3=>TL.r 15 [] [(17,.b r3)] {} (TL.split 17 r3 Kr (fun h3=>?_) (fun h3=>?_))))
   ·exact TL.r 24 [] [(26,.b true)] {} (TL.next rfl (TC.condT rfl Kr (TC.sr (TL.r 1 [] [(2,.i 4)] {} (TL.next rfl (TC.ret (TE.rt (TE.ret [] (.i 4) {} (by unfold Zz;refine eS (fun z=>(.i z:Value)) ?_;subst hr1 hr2 hr3;exact Zb h1 (Zb h2 (Zi h3 (rfl))))))))))))
   ·refine TL.r 17 [0] [(19,.i s.Code)] {} (TL.c 20 (ZI s.Code (-1) 4095) (fun r4=>.b r4) (fun w _=>Xg s.Code (-1) 4095 w) {} (fun r4 hr4=>TL.r 20 [] [(22,.b r4)] {} (TL.split 22 r4 Kr (fun h4=>?_) (fun h4=>?_))))
    ·exact TL.r 24 [] [(26,.b true)] {} (TL.next rfl (TC.condT rfl Kr (TC.sr (TL.r 1 [] [(2,.i 4)] {} (TL.next rfl (TC.ret (TE.rt (TE.ret [] (.i 4) {} (by unfold Zz;refine eS (fun z=>(.i z:Value)) ?_;subst hr1 hr2 hr3 hr4;exact Zb h1 (Zb h2 (Zb h3 (Zi h4 (rfl)))))))))))))
    ·refine TL.r 22 [0] [(24,.i s.Error)] {} (TL.c 25 (ZI s.Error 0 1000000) (fun r5=>.b r5) (fun w _=>Xg s.Error 0 1000000 w) {} (fun r5 hr5=>TL.r 24 [] [(26,.b r5)] {} (TL.next rfl (TC.cond r5 rfl Kr (fun h5=>?_) (fun h5=>?_)))))
     ·exact TC.sr (TL.r 1 [] [(2,.i 4)] {} (TL.next rfl (TC.ret (TE.rt (TE.ret [] (.i 4) {} (by unfold Zz;refine eS (fun z=>(.i z:Value)) ?_;subst hr1 hr2 hr3 hr4 hr5;exact Zb h1 (Zb h2 (Zb h3 (Zb h4 (Zi h5 (rfl)))))))))))
     ·exact TC.snr (TL.r 1 [] [(2,.i 0)] {} (TL.next rfl (TC.ret (TE.ret [] (.i 0) {} (by unfold Zz;refine eS (fun z=>(.i z:Value)) ?_;subst hr1 hr2 hr3 hr4 hr5;exact Zb h1 (Zb h2 (Zb h3 (Zb h4 (Zb h5 (rfl))))))))))
def Q4 (a:P) (b_:P):P :=
 (⟨w64 (a.X-b_.X),w64 (a.Y-b_.Y)⟩:P)
set_option maxRecDepth 100000 in
theorem Wp (a:P) (b_:P) (w:World):Calls Tryz.prog 73 #[P.v a,P.v b_] w (Ret w (P.v (Q4 a b_))):=by
 exact Zj (vs:=[P.v a,P.v b_]) (w:=w) Tryz.func73 rfl Tryz.ntmps73 rfl (TC.sr (TL.nw 2 (fun b1=>.p0 b1) (fun b1=>Bk b1 (P.c a) 36) (fun b1=>{}) (fun b1=>TL.nw 3 (fun b2=>.p0 b2) (fun b2=>Bk b2 (P.c b_) 36) (fun b2=>{}) (fun b2=>TL.nw 4 (fun b3=>.p0 b3) (fun b3=>Bk b3 (P.c P.zero) 36) (fun b3=>{}) (fun b3=>TL.nr (TL.r 11 [2,1,2,1] [(15,P.v (⟨w64 (a.X-b_.X),w64 (a.Y-b_.Y)⟩:P))] {} (TL.s 0 (Bk b3 (P.c (⟨w64 (a.X-b_.X),w64 (a.Y-b_.Y)⟩:P)) 36) (fun _=>{}) (TL.next rfl (TC.ret (TE.ret [0] (P.v (⟨w64 (a.X-b_.X),w64 (a.Y-b_.Y)⟩:P)) {} (by unfold Q4;refine eS (fun z=>(P.v z:Value)) ?_;exact rfl)))))))))))
def Qu (a:P) (b_:P):P :=
 (⟨w64 (a.X+b_.X),w64 (a.Y+b_.Y)⟩:P)
set_option maxRecDepth 100000 in
theorem Wq (a:P) (b_:P) (w:World):Calls Tryz.prog 96 #[P.v a,P.v b_] w (Ret w (P.v (Qu a b_))):=by
 exact Zj (vs:=[P.v a,P.v b_]) (w:=w) Tryz.func96 rfl Tryz.ntmps96 rfl (TC.sr (TL.nw 2 (fun b1=>.p0 b1) (fun b1=>Bk b1 (P.c a) 36) (fun b1=>{}) (fun b1=>TL.nw 3 (fun b2=>.p0 b2) (fun b2=>Bk b2 (P.c b_) 36) (fun b2=>{}) (fun b2=>TL.nw 4 (fun b3=>.p0 b3) (fun b3=>Bk b3 (P.c P.zero) 36) (fun b3=>{}) (fun b3=>TL.nr (TL.r 11 [2,1,2,1] [(15,P.v (⟨w64 (a.X+b_.X),w64 (a.Y+b_.Y)⟩:P))] {} (TL.s 0 (Bk b3 (P.c (⟨w64 (a.X+b_.X),w64 (a.Y+b_.Y)⟩:P)) 36) (fun _=>{}) (TL.next rfl (TC.ret (TE.ret [0] (P.v (⟨w64 (a.X+b_.X),w64 (a.Y+b_.Y)⟩:P)) {} (by unfold Qu;refine eS (fun z=>(P.v z:Value)) ?_;exact rfl)))))))))))
def Vv (a:P) (b_:P):Int :=
 w64 ((w64 (a.X*b_.X))+(w64 (a.Y*b_.Y)))
set_option maxRecDepth 100000 in
theorem FI (a:P) (b_:P) (w:World):Calls Tryz.prog 151 #[P.v a,P.v b_] w (Ret w (.int .i64 (Vv a b_))):=by
 exact Zj (vs:=[P.v a,P.v b_]) (w:=w) Tryz.func151 rfl Tryz.ntmps151 rfl (TC.sr (TL.nw 2 (fun b1=>.p0 b1) (fun b1=>Bk b1 (P.c a) 36) (fun b1=>{}) (fun b1=>TL.nw 3 (fun b2=>.p0 b2) (fun b2=>Bk b2 (P.c b_) 36) (fun b2=>{}) (fun b2=>TL.r 3 [] [(4,.i 0)] {} (TL.nr (TL.r 12 [1,0,1,0] [(4,.i (w64 ((w64 (a.X*b_.X))+(w64 (a.Y*b_.Y)))))] {} (TL.next rfl (TC.ret (TE.ret [] (.i (w64 ((w64 (a.X*b_.X))+(w64 (a.Y*b_.Y))))) {} (by unfold Vv;refine eS (fun z=>(.i z:Value)) ?_;exact rfl))))))))))
def ZV (a:P) (b_:P):Int :=
 let r1:=Q4 a b_
 let r2:=Vv r1 r1
 r2
set_option maxRecDepth 100000 in
theorem KH (a:P) (b_:P) (w:World):Calls Tryz.prog 103 #[P.v a,P.v b_] w (Ret w (.int .i64 (ZV a b_))):=by
 exact Zj (vs:=[P.v a,P.v b_]) (w:=w) Tryz.func103 rfl Tryz.ntmps103 rfl (TC.sr (TL.nw 2 (fun b1=>.p0 b1) (fun b1=>Bk b1 (P.c a) 36) (fun b1=>{}) (fun b1=>TL.nw 3 (fun b2=>.p0 b2) (fun b2=>Bk b2 (P.c b_) 36) (fun b2=>{}) (fun b2=>TL.r 3 [] [(4,.i 0)] {} (TL.nr (TL.r 2 [1,0] [(6,P.v a),(7,P.v b_)] {} (TL.c 8 (Q4 a b_) (fun r1=>P.v r1) (fun w _=>Wp a b_ w) {} (fun r1 hr1=>TL.nw 5 (fun b3=>.p0 b3) (fun b3=>Bk b3 (P.c P.zero) 36) (fun b3=>{}) (fun b3=>TL.s 0 (Bk b3 (P.c r1) 36) (fun _=>{}) (TL.nr (TL.r 2 [0,0] [(9,P.v r1),(10,P.v r1)] {} (TL.c 11 (Vv r1 r1) (fun r2=>.i r2) (fun w _=>FI r1 r1 w) {} (fun r2 hr2=>TL.r 4 [] [(4,.i r2)] {} (TL.next rfl (TC.ret (TE.ret [] (.i r2) {} (by unfold ZV;refine eS (fun z=>(.i z:Value)) ?_;subst hr1 hr2;exact rfl)))))))))))))))))
def ZQ (a:P) (b_:P) (d:Int):Bool :=
 cond ((decide (d≥0))&&(decide (d≤8000000))) (
  let r1:=ZV a b_
  decide (r1≤(w64 (d*d)))) (
  false)
set_option maxRecDepth 100000 in
theorem QN (a:P) (b_:P) (d:Int) (w:World):Calls Tryz.prog 48 #[P.v a,P.v b_,.int .i64 d] w (Ret w (.bool (ZQ a b_ d))):=by
 refine Zj (vs:=[P.v a,P.v b_,.i d]) (w:=w) Tryz.func48 rfl Tryz.ntmps48 rfl (TC.sr (TL.nw 3 (fun b1=>.p0 b1) (fun b1=>Bk b1 (P.c a) 36) (fun b1=>{}) (fun b1=>TL.nw 4 (fun b2=>.p0 b2) (fun b2=>Bk b2 (P.c b_) 36) (fun b2=>{}) (fun b2=>TL.r 3 [] [(6,.b false)] {} (TL.nr (TL.r 3 [] [(9,.b (decide (d≥0)))] {} (TL.j 9 (decide (d≥0)) 6 [] [] (fun β=>[(12,.b (β&&(decide (d≤8000000))))]) Kr {} {} (TL.r 7 [] [(13,.b ((decide (d≥0))&&(decide (d≤8000000))))] {} (TL.split 13 ((decide (d≥0))&&(decide (d≤8000000))) Kr (fun h1=>?_) (fun h1=>?_))))))))))
 ·exact TL.r 9 [1,0] [(14,P.v a),(15,P.v b_)] {} (TL.c 16 (ZV a b_) (fun r1=>.i r1) (fun w _=>KH a b_ w) {} (fun r1 hr1=>TL.r 16 [] [(6,.b (decide (r1≤(w64 (d*d)))))] {} (TL.next rfl (TC.ret (TE.ret [] (.b (decide (r1≤(w64 (d*d))))) {} (by unfold ZQ;refine eS (fun z=>(.b z:Value)) ?_;subst hr1;exact Zi h1 (rfl)))))))
 ·exact TL.r 16 [] [(6,.b false)] {} (TL.next rfl (TC.ret (TE.ret [] (.b false) {} (by unfold ZQ;refine eS (fun z=>(.b z:Value)) ?_;exact Zb h1 (rfl)))))
def Xr (a:Int) (b_:Int):Int×Int :=
 cond (b_==0) (
  (0,10)) (
  cond ((a==(-9223372036854775808))&&(b_==(-1))) (
   (0,2)) (
   cond (((a.tmod b_) != 0)&&(!((decide (a<0))==(decide (b_<0))))) (
    (w64 ((w64 (a.tdiv b_))-1),0)) (
    (w64 (a.tdiv b_),0))))
set_option maxRecDepth 100000 in
theorem UD (a:Int) (b_:Int) (w:World):Calls Tryz.prog 124 #[.int .i64 a,.int .i64 b_] w (Ret w (.tuple #[.int .i64 ((Xr a b_).1),.int .i64 ((Xr a b_).2)])):=by
 refine Zj (vs:=[.i a,.i b_]) (w:=w) Tryz.func124 rfl Tryz.ntmps124 rfl (TC.sr (TL.r 2 [] [(4,.i 0),(5,.i 0)] {} (TL.ns (TC.block (TC.sr (TL.r 3 [] [(7,.b (b_==0))] {} (TL.next rfl (TC.cond (b_==0) rfl Kr (fun h1=>?_) (fun h1=>?_)))))))))
 ·refine TC.sr (TL.r 2 [] [(4,.i 0),(5,.i 10)] {} (TL.next rfl (TC.ret (TE.rb (TE.rt ?_)))))
  exact TE.ret [] (.tuple #[.i 0,.i 10]) {} (by unfold Xr;refine eS (a:=(0,10)) (fun (z:Int×Int)=>(.tuple #[.i z.1,.i z.2]:Value)) ?_;exact Zi h1 (rfl))
 ·have q1_0:=(ZP h1)
  refine TC.sr (TL.r 3 [] [(13,.b (a==(-9223372036854775808)))] {} (TL.j 13 (a==(-9223372036854775808)) 6 [] [] (fun β=>[(16,.b (β&&(b_==(-1))))]) Kr {} {} (TL.r 7 [] [(10,.b ((a==(-9223372036854775808))&&(b_==(-1))))] {} (TL.next rfl (TC.cond ((a==(-9223372036854775808))&&(b_==(-1))) rfl Kr (fun h2=>?_) (fun h2=>?_))))))
  ·refine TC.sr (TL.r 2 [] [(4,.i 0),(5,.i 2)] {} (TL.next rfl (TC.ret (TE.rb (TE.rt ?_)))))
   exact TE.ret [] (.tuple #[.i 0,.i 2]) {} (by unfold Xr;refine eS (a:=(0,2)) (fun (z:Int×Int)=>(.tuple #[.i z.1,.i z.2]:Value)) ?_;exact Zb h1 (Zi h2 (rfl)))
  ·have q2_0:=((X7 h2).imp (fun h=>(ZP h)) (fun h=>(ZP h)))
   refine TC.skip (TE.nb (TE.nr (TL.r 2 [] [(17,.i a),(18,.i b_)] {} (TL.v (sV (binOp .quo 3 (.i a) (.i b_))) 19 (.i (w64 (a.tdiv b_))) (fun w hM=>MY sdr) {} (TL.r 4 [] [(6,.i (w64 (a.tdiv b_)))] {} (TL.ns (TC.sr (TL.r 2 [] [(20,.i a),(21,.i b_)] {} (TL.v (sV (binOp .rem 3 (.i a) (.i b_))) 22 (.i (a.tmod b_)) (fun w hM=>W9 sdr) {} (TL.r 5 [] [(24,.b ((a.tmod b_) != 0))] {} (TL.j 24 ((a.tmod b_) != 0) 11 [] [] (fun β=>[(30,.b (β&&(!((decide (a<0))==(decide (b_<0))))))]) Kr {} {} (TL.next rfl (TC.cond (((a.tmod b_) != 0)&&(!((decide (a<0))==(decide (b_<0))))) rfl Kr (fun h3=>?_) (fun h3=>?_))))))))))))))
   ·exact TC.region (TL.r 3 [] [(6,.i (w64 ((w64 (a.tdiv b_))-1)))] {} (TL.nr (TL.r 3 [] [(4,.i (w64 ((w64 (a.tdiv b_))-1))),(5,.i 0)] {} (TL.next rfl (TC.ret (TE.ret [] (.tuple #[.i (w64 ((w64 (a.tdiv b_))-1)),.i 0]) {} (by unfold Xr;refine eS (a:=(w64 ((w64 (a.tdiv b_))-1),0)) (fun (z:Int×Int)=>(.tuple #[.i z.1,.i z.2]:Value)) ?_;exact Zb h1 (Zb h2 (Zi h3 (rfl))))))))))
   ·exact TC.snr (TL.r 3 [] [(4,.i (w64 (a.tdiv b_))),(5,.i 0)] {} (TL.next rfl (TC.ret (TE.ret [] (.tuple #[.i (w64 (a.tdiv b_)),.i 0]) {} (by unfold Xr;refine eS (a:=(w64 (a.tdiv b_),0)) (fun (z:Int×Int)=>(.tuple #[.i z.1,.i z.2]:Value)) ?_;exact Zb h1 (Zb h2 (Zb h3 (rfl))))))))
def X8 (a:Int) (b_:Int):Int×Int :=
 let r1:=Xr a b_
 cond (r1.2==0) (
  cond ((a.tmod b_) != 0) (
   (w64 (r1.1+1),r1.2)) (
   (r1.1,r1.2))) (
  (r1.1,r1.2))
theorem C7 {a b:Int} {r:Int×Int} (hr:Xr a b=r) (h:(r.2==0)=true):b≠0:=by
 rintro rfl;subst hr;revert h;simp[Xr]
set_option maxRecDepth 100000 in
theorem Kz (a:Int) (b_:Int) (w:World):Calls Tryz.prog 125 #[.int .i64 a,.int .i64 b_] w (Ret w (.tuple #[.int .i64 ((X8 a b_).1),.int .i64 ((X8 a b_).2)])):=by
 refine Zj (vs:=[.i a,.i b_]) (w:=w) Tryz.func125 rfl Tryz.ntmps125 rfl (TC.sr (TL.r 2 [] [(4,.i 0),(5,.i 0)] {} (TL.nr (TL.r 2 [] [(9,.i a),(10,.i b_)] {} (TL.c 11 (Xr a b_) (fun r1=>.tuple #[.i r1.1,.i r1.2]) (fun w _=>UD a b_ w) {} (fun r1 hr1=>TL.r 8 [] [(6,.i r1.1),(7,.i r1.2)] {} (TL.ns (TC.sr (TL.r 3 [] [(16,.b (r1.2==0))] {} (TL.split 16 (r1.2==0) Kr (fun h1=>?_) (fun h1=>?_)))))))))))
 ·refine TL.r 5 [] [(17,.i a),(18,.i b_)] {} (TL.v (sV (binOp .rem 3 (.i a) (.i b_))) 19 (.i (a.tmod b_)) (fun w hM=>W9 (C7 hr1 h1)) {} (TL.r 8 [] [(21,.b ((a.tmod b_) != 0))] {} (TL.next rfl (TC.cond ((a.tmod b_) != 0) rfl Kr (fun h2=>?_) (fun h2=>?_)))))
  ·exact TC.region (TL.r 3 [] [(6,.i (w64 (r1.1+1)))] {} (TL.nr (TL.r 4 [] [(4,.i (w64 (r1.1+1))),(5,.i r1.2)] {} (TL.next rfl (TC.ret (TE.ret [] (.tuple #[.i (w64 (r1.1+1)),.i r1.2]) {} (by unfold X8;refine eS (a:=(w64 (r1.1+1),r1.2)) (fun (z:Int×Int)=>(.tuple #[.i z.1,.i z.2]:Value)) ?_;subst hr1;exact Zi h1 (Zi h2 (rfl)))))))))
  ·exact TC.snr (TL.r 4 [] [(4,.i r1.1),(5,.i r1.2)] {} (TL.next rfl (TC.ret (TE.ret [] (.tuple #[.i r1.1,.i r1.2]) {} (by unfold X8;refine eS (a:=(r1.1,r1.2)) (fun (z:Int×Int)=>(.tuple #[.i z.1,.i z.2]:Value)) ?_;subst hr1;exact Zi h1 (Zb h2 (rfl)))))))
 ·exact TL.r 8 [] [(21,.b false)] {} (TL.next rfl (TC.condF rfl Kr (TC.snr (TL.r 4 [] [(4,.i r1.1),(5,.i r1.2)] {} (TL.next rfl (TC.ret (TE.ret [] (.tuple #[.i r1.1,.i r1.2]) {} (by unfold X8;refine eS (a:=(r1.1,r1.2)) (fun (z:Int×Int)=>(.tuple #[.i z.1,.i z.2]:Value)) ?_;subst hr1;exact Zb h1 (rfl)))))))))
def Xs (n:Int) (low:Int) (high:Int):Int :=
 cond ((decide (n<low))||(decide (low>high))) (
  low) (
  cond (decide (n>high)) (
   high) (
   n))
set_option maxRecDepth 100000 in
theorem UE (n:Int) (low:Int) (high:Int) (w:World):Calls Tryz.prog 100 #[.int .i64 n,.int .i64 low,.int .i64 high] w (Ret w (.int .i64 (Xs n low high))):=by
 refine Zj (vs:=[.i n,.i low,.i high]) (w:=w) Tryz.func100 rfl Tryz.ntmps100 rfl (TC.sr (TL.r 1 [] [(6,.i 0)] {} (TL.ns (TC.block (TC.sr (TL.r 4 [] [(11,.b (decide (n<low)))] {} (TL.j 11 (decide (n<low)) 8 [] [] (fun β=>[(15,.b (β||(decide (low>high))))]) Kr {} {} (TL.r 9 [] [(7,.b ((decide (n<low))||(decide (low>high))))] {} (TL.next rfl (TC.cond ((decide (n<low))||(decide (low>high))) rfl Kr (fun h1=>?_) (fun h1=>?_)))))))))))
 ·refine TC.sr (TL.r 2 [] [(6,.i low)] {} (TL.next rfl (TC.ret (TE.rb (TE.rt ?_)))))
  exact TE.ret [] (.i low) {} (by unfold Xs;refine eS (fun z=>(.i z:Value)) ?_;exact Zi h1 (rfl))
 ·refine TC.sr (TL.r 4 [] [(17,.b (decide (n>high)))] {} (TL.next rfl (TC.cond (decide (n>high)) rfl Kr (fun h2=>?_) (fun h2=>?_))))
  ·refine TC.sr (TL.r 2 [] [(6,.i high)] {} (TL.next rfl (TC.ret (TE.rb (TE.rt ?_)))))
   exact TE.ret [] (.i high) {} (by unfold Xs;refine eS (fun z=>(.i z:Value)) ?_;exact Zb h1 (Zi h2 (rfl)))
  ·exact TC.skip (TE.nb (TE.nr (TL.r 2 [] [(6,.i n)] {} (TL.next rfl (TC.ret (TE.ret [] (.i n) {} (by unfold Xs;refine eS (fun z=>(.i z:Value)) ?_;exact Zb h1 (Zb h2 (rfl)))))))))
def YJ (t:Track):Int :=
 let r1:=Zz (⟨t.Time,t.At,t.Height,t.Code,0⟩:Zf)
 cond (((r1 != 0)||(decide (t.Radius<0)))||(decide (t.Radius>4000000))) (
  4) (
  0)
set_option maxRecDepth 100000 in
theorem Vd (t:Track) (w:World):Calls Tryz.prog 102 #[Track.v t] w (Ret w (.int .i64 (YJ t))):=by
 refine Zj (vs:=[Track.v t]) (w:=w) Tryz.func102 rfl Tryz.ntmps102 rfl (TC.sr (TL.nw 1 (fun b1=>.p0 b1) (fun b1=>Bk b1 (Track.c t) 40) (fun b1=>{}) (fun b1=>TL.r 2 [] [(2,.i 0)] {} (TL.ns (TC.sr (TL.r 9 [0,0,0,0] [(11,Zf.v (⟨t.Time,t.At,t.Height,t.Code,0⟩:Zf))] {} (TL.c 12 (Zz (⟨t.Time,t.At,t.Height,t.Code,0⟩:Zf)) (fun r1=>.i r1) (fun w _=>Xq (⟨t.Time,t.At,t.Height,t.Code,0⟩:Zf) w) {} (fun r1 hr1=>TL.r 12 [] [(14,.b (r1 != 0))] {} (TL.j 14 (r1 != 0) 16 [] [0] (fun β=>[(18,.b (β||(decide (t.Radius<0))))]) Kr {} {} (TL.r 17 [] [(19,.b ((r1 != 0)||(decide (t.Radius<0))))] {} (TL.j 19 ((r1 != 0)||(decide (t.Radius<0))) 21 [] [0] (fun β=>[(23,.b (β||(decide (t.Radius>4000000))))]) Kr {} {} (TL.next rfl (TC.cond (((r1 != 0)||(decide (t.Radius<0)))||(decide (t.Radius>4000000))) rfl Kr (fun h1=>?_) (fun h1=>?_))))))))))))))
 ·exact TC.sr (TL.r 1 [] [(2,.i 4)] {} (TL.next rfl (TC.ret (TE.rt (TE.ret [] (.i 4) {} (by unfold YJ;refine eS (fun z=>(.i z:Value)) ?_;subst hr1;exact Zi h1 (rfl)))))))
 ·exact TC.snr (TL.r 1 [] [(2,.i 0)] {} (TL.next rfl (TC.ret (TE.ret [] (.i 0) {} (by unfold YJ;refine eS (fun z=>(.i z:Value)) ?_;subst hr1;exact Zb h1 (rfl))))))
def Qx (slack:Int) (accel:Int) (seconds:Int):Int×Int :=
 cond ((((decide (slack<0))||(decide (slack>409600)))||(decide (accel<0)))||(decide (accel>20))) (
  (0,4)) (
  cond ((decide (seconds<0))||(decide (seconds>600))) (
   (0,12)) (
   cond (seconds==0) (
    (0,0)) (
    let r1:=X8 (w64 (slack*seconds)) 16
    let r2:=X8 (w64 ((w64 (accel*seconds))*seconds)) 2
    (w64 ((w64 (r1.1+r2.1))+2),0))))
set_option maxRecDepth 100000 in
theorem Df (slack:Int) (accel:Int) (seconds:Int) (w:World):Calls Tryz.prog 101 #[.int .i64 slack,.int .i64 accel,.int .i64 seconds] w (Ret w (.tuple #[.int .i64 ((Qx slack accel seconds).1),.int .i64 ((Qx slack accel seconds).2)])):=by
 refine Zj (vs:=[.i slack,.i accel,.i seconds]) (w:=w) Tryz.func101 rfl Tryz.ntmps101 rfl (TC.sr (TL.r 2 [] [(6,.i 0),(7,.i 0)] {} (TL.ns (TC.block (TC.sr (TL.r 3 [] [(15,.b (decide (slack<0)))] {} (TL.j 15 (decide (slack<0)) 6 [] [] (fun β=>[(18,.b (β||(decide (slack>409600))))]) Kr {} {} (TL.r 7 [] [(19,.b ((decide (slack<0))||(decide (slack>409600))))] {} (TL.j 19 ((decide (slack<0))||(decide (slack>409600))) 10 [] [] (fun β=>[(22,.b (β||(decide (accel<0))))]) Kr {} {} (TL.r 11 [] [(23,.b (((decide (slack<0))||(decide (slack>409600)))||(decide (accel<0))))] {} (TL.j 23 (((decide (slack<0))||(decide (slack>409600)))||(decide (accel<0))) 14 [] [] (fun β=>[(26,.b (β||(decide (accel>20))))]) Kr {} {} (TL.r 15 [] [(12,.b ((((decide (slack<0))||(decide (slack>409600)))||(decide (accel<0)))||(decide (accel>20))))] {} (TL.next rfl (TC.cond ((((decide (slack<0))||(decide (slack>409600)))||(decide (accel<0)))||(decide (accel>20))) rfl Kr (fun h1=>?_) (fun h1=>?_)))))))))))))))
 ·refine TC.sr (TL.r 2 [] [(6,.i 0),(7,.i 4)] {} (TL.next rfl (TC.ret (TE.rb (TE.rt ?_)))))
  exact TE.ret [] (.tuple #[.i 0,.i 4]) {} (by unfold Qx;refine eS (a:=(0,4)) (fun (z:Int×Int)=>(.tuple #[.i z.1,.i z.2]:Value)) ?_;exact Zi h1 (rfl))
 ·refine TC.sr (TL.r 3 [] [(30,.b (decide (seconds<0)))] {} (TL.j 30 (decide (seconds<0)) 6 [] [] (fun β=>[(33,.b (β||(decide (seconds>600))))]) Kr {} {} (TL.r 7 [] [(27,.b ((decide (seconds<0))||(decide (seconds>600))))] {} (TL.next rfl (TC.cond ((decide (seconds<0))||(decide (seconds>600))) rfl Kr (fun h2=>?_) (fun h2=>?_))))))
  ·refine TC.sr (TL.r 2 [] [(6,.i 0),(7,.i 12)] {} (TL.next rfl (TC.ret (TE.rb (TE.rt ?_)))))
   exact TE.ret [] (.tuple #[.i 0,.i 12]) {} (by unfold Qx;refine eS (a:=(0,12)) (fun (z:Int×Int)=>(.tuple #[.i z.1,.i z.2]:Value)) ?_;exact Zb h1 (Zi h2 (rfl)))
  ·refine TC.sr (TL.r 3 [] [(34,.b (seconds==0))] {} (TL.next rfl (TC.cond (seconds==0) rfl Kr (fun h3=>?_) (fun h3=>?_))))
   ·refine TC.sr (TL.r 2 [] [(6,.i 0),(7,.i 0)] {} (TL.next rfl (TC.ret (TE.rb (TE.rt ?_)))))
    exact TE.ret [] (.tuple #[.i 0,.i 0]) {} (by unfold Qx;refine eS (a:=(0,0)) (fun (z:Int×Int)=>(.tuple #[.i z.1,.i z.2]:Value)) ?_;exact Zb h1 (Zb h2 (Zi h3 (rfl))))
   ·exact TC.skip (TE.nb (TE.nr (TL.r 3 [] [(40,.i (w64 (slack*seconds)))] {} (TL.c 41 (X8 (w64 (slack*seconds)) 16) (fun r1=>.tuple #[.i r1.1,.i r1.2]) (fun w _=>Kz (w64 (slack*seconds)) 16 w) {} (fun r1 hr1=>TL.r 9 [] [(8,.i r1.1)] {} (TL.nr (TL.r 5 [] [(49,.i (w64 ((w64 (accel*seconds))*seconds)))] {} (TL.c 50 (X8 (w64 ((w64 (accel*seconds))*seconds)) 2) (fun r2=>.tuple #[.i r2.1,.i r2.2]) (fun w _=>Kz (w64 ((w64 (accel*seconds))*seconds)) 2 w) {} (fun r2 hr2=>TL.r 11 [] [(10,.i r2.1)] {} (TL.nr (TL.r 6 [] [(6,.i (w64 ((w64 (r1.1+r2.1))+2))),(7,.i 0)] {} (TL.next rfl (TC.ret (TE.ret [] (.tuple #[.i (w64 ((w64 (r1.1+r2.1))+2)),.i 0]) {} (by unfold Qx;refine eS (a:=(w64 ((w64 (r1.1+r2.1))+2),0)) (fun (z:Int×Int)=>(.tuple #[.i z.1,.i z.2]:Value)) ?_;subst hr1 hr2;exact Zb h1 (Zb h2 (Zb h3 (rfl))))))))))))))))))
def ZX (n:Int) (low:Int) (high:Int):Bool :=
 (decide (n<low))||(decide (n>high))
set_option maxRecDepth 100000 in
theorem XT (n:Int) (low:Int) (high:Int) (w:World):Calls Tryz.prog 98 #[.int .i64 n,.int .i64 low,.int .i64 high] w (Ret w (.bool (ZX n low high))):=by
 exact Zj (vs:=[.i n,.i low,.i high]) (w:=w) Tryz.func98 rfl Tryz.ntmps98 rfl (TC.sr (TL.r 1 [] [(6,.b false)] {} (TL.nr (TL.r 4 [] [(10,.b (decide (n<low)))] {} (TL.j 10 (decide (n<low)) 8 [] [] (fun β=>[(14,.b (β||(decide (n>high))))]) Kr {} {} (TL.r 9 [] [(6,.b ((decide (n<low))||(decide (n>high))))] {} (TL.next rfl (TC.ret (TE.ret [] (.b ((decide (n<low))||(decide (n>high)))) {} (by unfold ZX;refine eS (fun z=>(.b z:Value)) ?_;exact rfl))))))))))
def Z2 (f:Za):Int :=
 let r1:=YJ f.Track
 cond (r1 != 0) (
  r1) (
  let r2:=ZX f.Track.Speed.X (-12800) 12800
  cond r2 (
   4) (
   let r3:=ZX f.Track.Speed.Y (-12800) 12800
   cond r3 (
    4) (
    let r4:=ZX f.Track.Rate (-3200) 3200
    cond r4 (
     4) (
     let r5:=ZX f.Slack 0 409600
     cond (((r5||(decide (f.Track.ID<0)))||(decide (f.Track.Hits<0)))||(decide (f.Track.Misses<0))) (
      4) (
      let r6:=ZX f.Track.State 0 2
      cond r6 (
       1) (
       let r7:=Zz f.Last
       cond (r7 != 0) (
        r7) (
        cond (decide (f.Last.Time>f.Track.Time)) (
         12) (
         0))))))))
set_option maxHeartbeats 4000000 in
set_option maxRecDepth 100000 in
theorem XG (f:Za) (w:World):Calls Tryz.prog 46 #[Za.v f] w (Ret w (.int .i64 (Z2 f))):=by
 refine Zj (vs:=[Za.v f]) (w:=w) Tryz.func46 rfl Tryz.ntmps46 rfl (TC.sr (TL.nw 1 (fun b1=>.p0 b1) (fun b1=>Bk b1 (Za.c f) 44) (fun b1=>{}) (fun b1=>TL.r 2 [] [(2,.i 0)] {} (TL.nr (TL.r 2 [0] [(7,Track.v f.Track)] {} (TL.nw 3 (fun b2=>.p0 b2) (fun b2=>Bk b2 (Track.c Track.zero) 40) (fun b2=>{}) (fun b2=>TL.s 0 (Bk b2 (Track.c f.Track) 40) (fun _=>{}) (TL.ns (TC.sr (TL.r 1 [0] [(8,Track.v f.Track)] {} (TL.c 9 (YJ f.Track) (fun r1=>.i r1) (fun w _=>Vd f.Track w) {} (fun r1 hr1=>TL.r 3 [] [(4,.i r1)] {} (TL.nr (TL.r 2 [] [(11,.b (r1 != 0))] {} (TL.next rfl (TC.cond (r1 != 0) rfl Kr (fun h1=>?_) (fun h1=>?_)))))))))))))))))
 ·exact TC.sr (TL.r 2 [] [(2,.i r1)] {} (TL.next rfl (TC.ret (TE.rt (TE.ret [] (.i r1) {} (by unfold Z2;refine eS (fun z=>(.i z:Value)) ?_;subst hr1;exact Zi h1 (rfl)))))))
 ·refine TC.sn (TC.seq (TC.sr (TL.r 3 [0] [(15,.i f.Track.Speed.X)] {} (TL.c 16 (ZX f.Track.Speed.X (-12800) 12800) (fun r2=>.b r2) (fun w _=>XT f.Track.Speed.X (-12800) 12800 w) {} (fun r2 hr2=>TL.r 5 [] [(17,.b r2)] {} (TL.split 17 r2 Kr (fun h2=>?_) (fun h2=>?_)))))))
  ·exact TL.r 35 [] [(47,.b true)] {} (TL.next rfl (TC.condT rfl Kr (TC.sr (TL.r 1 [] [(2,.i 4)] {} (TL.next rfl (TC.ret (TE.rt (TE.ret [] (.i 4) {} (by unfold Z2;refine eS (fun z=>(.i z:Value)) ?_;subst hr1 hr2;exact Zb h1 (Zi h2 (rfl)))))))))))
  ·refine TL.r 8 [0] [(20,.i f.Track.Speed.Y)] {} (TL.c 21 (ZX f.Track.Speed.Y (-12800) 12800) (fun r3=>.b r3) (fun w _=>XT f.Track.Speed.Y (-12800) 12800 w) {} (fun r3 hr3=>TL.r 11 [] [(23,.b r3)] {} (TL.split 23 r3 Kr (fun h3=>?_) (fun h3=>?_))))
   ·exact TL.r 35 [] [(47,.b true)] {} (TL.next rfl (TC.condT rfl Kr (TC.sr (TL.r 1 [] [(2,.i 4)] {} (TL.next rfl (TC.ret (TE.rt (TE.ret [] (.i 4) {} (by unfold Z2;refine eS (fun z=>(.i z:Value)) ?_;subst hr1 hr2 hr3;exact Zb h1 (Zb h2 (Zi h3 (rfl))))))))))))
   ·refine TL.r 13 [0] [(25,.i f.Track.Rate)] {} (TL.c 26 (ZX f.Track.Rate (-3200) 3200) (fun r4=>.b r4) (fun w _=>XT f.Track.Rate (-3200) 3200 w) {} (fun r4 hr4=>TL.r 16 [] [(28,.b r4)] {} (TL.split 28 r4 Kr (fun h4=>?_) (fun h4=>?_))))
    ·exact TL.r 35 [] [(47,.b true)] {} (TL.next rfl (TC.condT rfl Kr (TC.sr (TL.r 1 [] [(2,.i 4)] {} (TL.next rfl (TC.ret (TE.rt (TE.ret [] (.i 4) {} (by unfold Z2;refine eS (fun z=>(.i z:Value)) ?_;subst hr1 hr2 hr3 hr4;exact Zb h1 (Zb h2 (Zb h3 (Zi h4 (rfl)))))))))))))
    ·refine TL.r 18 [1] [(30,.i f.Slack)] {} (TL.c 31 (ZX f.Slack 0 409600) (fun r5=>.b r5) (fun w _=>XT f.Slack 0 409600 w) {} (fun r5 hr5=>TL.r 21 [] [(33,.b r5)] {} (TL.j 33 r5 25 [] [0] (fun β=>[(37,.b (β||(decide (f.Track.ID<0))))]) Kr {} {} (TL.r 26 [] [(38,.b (r5||(decide (f.Track.ID<0))))] {} (TL.j 38 (r5||(decide (f.Track.ID<0))) 30 [] [0] (fun β=>[(42,.b (β||(decide (f.Track.Hits<0))))]) Kr {} {} (TL.r 31 [] [(43,.b ((r5||(decide (f.Track.ID<0)))||(decide (f.Track.Hits<0))))] {} (TL.j 43 ((r5||(decide (f.Track.ID<0)))||(decide (f.Track.Hits<0))) 35 [] [0] (fun β=>[(47,.b (β||(decide (f.Track.Misses<0))))]) Kr {} {} (TL.next rfl (TC.cond (((r5||(decide (f.Track.ID<0)))||(decide (f.Track.Hits<0)))||(decide (f.Track.Misses<0))) rfl Kr (fun h5=>?_) (fun h5=>?_))))))))))
     ·exact TC.sr (TL.r 1 [] [(2,.i 4)] {} (TL.next rfl (TC.ret (TE.rt (TE.ret [] (.i 4) {} (by unfold Z2;refine eS (fun z=>(.i z:Value)) ?_;subst hr1 hr2 hr3 hr4 hr5;exact Zb h1 (Zb h2 (Zb h3 (Zb h4 (Zi h5 (rfl)))))))))))
     ·refine TC.sn (TC.seq (TC.sr (TL.r 2 [0] [(49,.i f.Track.State)] {} (TL.c 50 (ZX f.Track.State 0 2) (fun r6=>.b r6) (fun w _=>XT f.Track.State 0 2 w) {} (fun r6 hr6=>TL.next rfl (TC.cond r6 rfl Kr (fun h6=>?_) (fun h6=>?_)))))))
      ·exact TC.sr (TL.r 1 [] [(2,.i 1)] {} (TL.next rfl (TC.ret (TE.rt (TE.ret [] (.i 1) {} (by unfold Z2;refine eS (fun z=>(.i z:Value)) ?_;subst hr1 hr2 hr3 hr4 hr5 hr6;exact Zb h1 (Zb h2 (Zb h3 (Zb h4 (Zb h5 (Zi h6 (rfl))))))))))))
      ·refine TC.sn (TC.seq (TC.sr (TL.r 2 [1] [(52,Zf.v f.Last)] {} (TL.c 53 (Zz f.Last) (fun r7=>.i r7) (fun w _=>Xq f.Last w) {} (fun r7 hr7=>TL.r 4 [] [(5,.i r7)] {} (TL.nr (TL.r 2 [] [(55,.b (r7 != 0))] {} (TL.next rfl (TC.cond (r7 != 0) rfl Kr (fun h7=>?_) (fun h7=>?_))))))))))
       ·exact TC.sr (TL.r 2 [] [(2,.i r7)] {} (TL.next rfl (TC.ret (TE.rt (TE.ret [] (.i r7) {} (by unfold Z2;refine eS (fun z=>(.i z:Value)) ?_;subst hr1 hr2 hr3 hr4 hr5 hr6 hr7;exact Zb h1 (Zb h2 (Zb h3 (Zb h4 (Zb h5 (Zb h6 (Zi h7 (rfl)))))))))))))
       ·refine TC.sn (TC.seq (TC.sr (TL.r 6 [1,0] [(62,.b (decide (f.Last.Time>f.Track.Time)))] {} (TL.next rfl (TC.cond (decide (f.Last.Time>f.Track.Time)) rfl Kr (fun h8=>?_) (fun h8=>?_))))))
        ·exact TC.sr (TL.r 1 [] [(2,.i 12)] {} (TL.next rfl (TC.ret (TE.rt (TE.ret [] (.i 12) {} (by unfold Z2;refine eS (fun z=>(.i z:Value)) ?_;subst hr1 hr2 hr3 hr4 hr5 hr6 hr7;exact Zb h1 (Zb h2 (Zb h3 (Zb h4 (Zb h5 (Zb h6 (Zb h7 (Zi h8 (rfl))))))))))))))
        ·exact TC.snr (TL.r 1 [] [(2,.i 0)] {} (TL.next rfl (TC.ret (TE.ret [] (.i 0) {} (by unfold Z2;refine eS (fun z=>(.i z:Value)) ?_;subst hr1 hr2 hr3 hr4 hr5 hr6 hr7;exact Zb h1 (Zb h2 (Zb h3 (Zb h4 (Zb h5 (Zb h6 (Zb h7 (Zb h8 (rfl)))))))))))))
def Yj (s:Zf):Za×Int :=
 let r1:=Zz s
 cond (r1 != 0) (
  ((⟨⟨0,0,0,⟨0,0⟩,⟨0,0⟩,0,0,0,0,0,0⟩,0,⟨0,⟨0,0⟩,0,0,0⟩⟩:Za),r1)) (
  ((⟨⟨0,0,s.Time,s.At,⟨0,0⟩,s.Height,0,s.Error,s.Code,1,0⟩,6400,s⟩:Za),0))
set_option maxRecDepth 100000 in
theorem WY (s:Zf) (w:World):Calls Tryz.prog 56 #[Zf.v s] w (Ret w (.tuple #[Za.v ((Yj s).1),.int .i64 ((Yj s).2)])):=by
 refine Zj (vs:=[Zf.v s]) (w:=w) Tryz.func56 rfl Tryz.ntmps56 rfl (TC.sr (TL.nw 1 (fun b1=>.p0 b1) (fun b1=>Bk b1 (Zf.c s) 42) (fun b1=>{}) (fun b1=>TL.nw 2 (fun b2=>.p0 b2) (fun b2=>Bk b2 (Za.c Za.zero) 44) (fun b2=>{}) (fun b2=>TL.r 3 [] [(3,.i 0)] {} (TL.ns (TC.sr (TL.r 1 [1] [(5,Zf.v s)] {} (TL.c 6 (Zz s) (fun r1=>.i r1) (fun w _=>Xq s w) {} (fun r1 hr1=>TL.r 3 [] [(4,.i r1)] {} (TL.nr (TL.r 2 [] [(8,.b (r1 != 0))] {} (TL.next rfl (TC.cond (r1 != 0) rfl Kr (fun h1=>?_) (fun h1=>?_))))))))))))))
 ·exact TC.sr (TL.r 2 [] [(9,Za.v Za.zero),(10,.i r1)] {} (TL.s 0 (Bk b2 (Za.c Za.zero) 44) (fun _=>{}) (TL.r 4 [] [(3,.i r1)] {} (TL.next rfl (TC.ret (TE.rt (TE.ret [0] (.tuple #[Za.v (⟨⟨0,0,0,⟨0,0⟩,⟨0,0⟩,0,0,0,0,0,0⟩,0,⟨0,⟨0,0⟩,0,0,0⟩⟩:Za),.i r1]) {} (by unfold Yj;refine eS (a:=((⟨⟨0,0,0,⟨0,0⟩,⟨0,0⟩,0,0,0,0,0,0⟩,0,⟨0,⟨0,0⟩,0,0,0⟩⟩:Za),r1)) (fun (z:Za×Int)=>(.tuple #[Za.v z.1,.i z.2]:Value)) ?_;subst hr1;exact Zi h1 (rfl)))))))))
 ·exact TC.snr (TL.r 13 [1,1,1,1,1,1] [(23,Za.v (⟨⟨0,0,s.Time,s.At,⟨0,0⟩,s.Height,0,s.Error,s.Code,1,0⟩,6400,s⟩:Za))] {} (TL.s 0 (Bk b2 (Za.c (⟨⟨0,0,s.Time,s.At,⟨0,0⟩,s.Height,0,s.Error,s.Code,1,0⟩,6400,s⟩:Za)) 44) (fun _=>{}) (TL.r 15 [] [(3,.i 0)] {} (TL.next rfl (TC.ret (TE.ret [0] (.tuple #[Za.v (⟨⟨0,0,s.Time,s.At,⟨0,0⟩,s.Height,0,s.Error,s.Code,1,0⟩,6400,s⟩:Za),.i 0]) {} (by unfold Yj;refine eS (a:=((⟨⟨0,0,s.Time,s.At,⟨0,0⟩,s.Height,0,s.Error,s.Code,1,0⟩,6400,s⟩:Za),0)) (fun (z:Za×Int)=>(.tuple #[Za.v z.1,.i z.2]:Value)) ?_;subst hr1;exact Zb h1 (rfl))))))))
def ZS (a:Int) (b_:Int):Int :=
 let r1:=Xr a b_
 r1.1
set_option maxRecDepth 100000 in
theorem QD (a:Int) (b_:Int) (w:World):Calls Tryz.prog 99 #[.int .i64 a,.int .i64 b_] w (Ret w (.int .i64 (ZS a b_))):=by
 exact Zj (vs:=[.i a,.i b_]) (w:=w) Tryz.func99 rfl Tryz.ntmps99 rfl (TC.sr (TL.r 1 [] [(4,.i 0)] {} (TL.nr (TL.r 2 [] [(8,.i a),(9,.i b_)] {} (TL.c 10 (Xr a b_) (fun r1=>.tuple #[.i r1.1,.i r1.2]) (fun w _=>UD a b_ w) {} (fun r1 hr1=>TL.r 8 [] [(5,.i r1.1)] {} (TL.nr (TL.r 2 [] [(4,.i r1.1)] {} (TL.next rfl (TC.ret (TE.ret [] (.i r1.1) {} (by unfold ZS;refine eS (fun z=>(.i z:Value)) ?_;subst hr1;exact rfl))))))))))))
def Qd (a:Int) (b_:Int):Int :=
 let r1:=X8 a b_
 r1.1
set_option maxRecDepth 100000 in
theorem Ua (a:Int) (b_:Int) (w:World):Calls Tryz.prog 112 #[.int .i64 a,.int .i64 b_] w (Ret w (.int .i64 (Qd a b_))):=by
 exact Zj (vs:=[.i a,.i b_]) (w:=w) Tryz.func112 rfl Tryz.ntmps112 rfl (TC.sr (TL.r 1 [] [(4,.i 0)] {} (TL.nr (TL.r 2 [] [(8,.i a),(9,.i b_)] {} (TL.c 10 (X8 a b_) (fun r1=>.tuple #[.i r1.1,.i r1.2]) (fun w _=>Kz a b_ w) {} (fun r1 hr1=>TL.r 8 [] [(5,.i r1.1)] {} (TL.nr (TL.r 2 [] [(4,.i r1.1)] {} (TL.next rfl (TC.ret (TE.ret [] (.i r1.1) {} (by unfold Qd;refine eS (fun z=>(.i z:Value)) ?_;subst hr1;exact rfl))))))))))))
def Zp (f:Za) (time:Int) (accel:Int):Za×Int :=
 let r1:=Z2 f
 cond (r1 != 0) (
  ((⟨⟨0,0,0,⟨0,0⟩,⟨0,0⟩,0,0,0,0,0,0⟩,0,⟨0,⟨0,0⟩,0,0,0⟩⟩:Za),r1)) (
  let r2:=ZX time 0 200000
  cond r2 (
   ((⟨⟨0,0,0,⟨0,0⟩,⟨0,0⟩,0,0,0,0,0,0⟩,0,⟨0,⟨0,0⟩,0,0,0⟩⟩:Za),4)) (
   let r3:=ZX accel 0 20
   cond r3 (
    ((⟨⟨0,0,0,⟨0,0⟩,⟨0,0⟩,0,0,0,0,0,0⟩,0,⟨0,⟨0,0⟩,0,0,0⟩⟩:Za),4)) (
    let r4:=ZX (w64 (time-f.Track.Time)) 0 600
    cond r4 (
     ((⟨⟨0,0,0,⟨0,0⟩,⟨0,0⟩,0,0,0,0,0,0⟩,0,⟨0,⟨0,0⟩,0,0,0⟩⟩:Za),12)) (
     cond ((w64 (time-f.Track.Time))==0) (
      (f,0)) (
      let r5:=ZS (w64 (f.Track.Speed.X*(w64 (time-f.Track.Time)))) 16
      let r6:=ZS (w64 (f.Track.Speed.Y*(w64 (time-f.Track.Time)))) 16
      let r7:=Qu f.Track.At (⟨r5,r6⟩:P)
      let r8:=ZS (w64 (f.Track.Rate*(w64 (time-f.Track.Time)))) 16
      let r9:=Xs (w64 (f.Track.Height+r8)) 0 60000
      let r10:=Qx f.Slack accel (w64 (time-f.Track.Time))
      let r11:=Z2 (⟨⟨f.Track.ID,f.Track.State,time,r7,f.Track.Speed,r9,f.Track.Rate,w64 (f.Track.Radius+r10.1),f.Track.Code,f.Track.Hits,f.Track.Misses⟩,w64 (f.Slack+(w64 ((w64 (16*accel))*(w64 (time-f.Track.Time))))),f.Last⟩:Za)
      cond (r11 != 0) (
       ((⟨⟨0,0,0,⟨0,0⟩,⟨0,0⟩,0,0,0,0,0,0⟩,0,⟨0,⟨0,0⟩,0,0,0⟩⟩:Za),8)) (
       ((⟨⟨f.Track.ID,f.Track.State,time,r7,f.Track.Speed,r9,f.Track.Rate,w64 (f.Track.Radius+r10.1),f.Track.Code,f.Track.Hits,f.Track.Misses⟩,w64 (f.Slack+(w64 ((w64 (16*accel))*(w64 (time-f.Track.Time))))),f.Last⟩:Za),0)))))))
set_option maxHeartbeats 4000000 in
set_option maxRecDepth 100000 in
theorem JQ (f:Za) (time:Int) (accel:Int) (w:World):Calls Tryz.prog 45 #[Za.v f,.int .i64 time,.int .i64 accel] w (Ret w (.tuple #[Za.v ((Zp f time accel).1),.int .i64 ((Zp f time accel).2)])):=by
 refine Zj (vs:=[Za.v f,.i time,.i accel]) (w:=w) Tryz.func45 rfl Tryz.ntmps45 rfl (TC.sr (TL.nw 3 (fun b1=>.p0 b1) (fun b1=>Bk b1 (Za.c f) 44) (fun b1=>{}) (fun b1=>TL.nw 6 (fun b2=>.p0 b2) (fun b2=>Bk b2 (Za.c Za.zero) 44) (fun b2=>{}) (fun b2=>TL.r 3 [] [(7,.i 0)] {} (TL.nr (TL.r 1 [] [(14,Za.v Za.zero)] {} (TL.nw 8 (fun b3=>.p0 b3) (fun b3=>Bk b3 (Za.c Za.zero) 44) (fun b3=>{}) (fun b3=>TL.s 0 (Bk b3 (Za.c Za.zero) 44) (fun _=>{}) (TL.ns (TC.sr (TL.r 1 [2] [(15,Za.v f)] {} (TL.c 16 (Z2 f) (fun r1=>.i r1) (fun w _=>XG f w) {} (fun r1 hr1=>TL.r 3 [] [(9,.i r1)] {} (TL.nr (TL.r 2 [] [(18,.b (r1 != 0))] {} (TL.next rfl (TC.cond (r1 != 0) rfl Kr (fun h1=>?_) (fun h1=>?_))))))))))))))))))
 ·exact TC.sr (TL.r 2 [0] [(19,Za.v (⟨⟨0,0,0,⟨0,0⟩,⟨0,0⟩,0,0,0,0,0,0⟩,0,⟨0,⟨0,0⟩,0,0,0⟩⟩:Za)),(20,.i r1)] {} (TL.s 1 (Bk b2 (Za.c Za.zero) 44) (fun _=>{}) (TL.r 4 [] [(7,.i r1)] {} (TL.next rfl (TC.ret (TE.rt (TE.ret [1] (.tuple #[Za.v (⟨⟨0,0,0,⟨0,0⟩,⟨0,0⟩,0,0,0,0,0,0⟩,0,⟨0,⟨0,0⟩,0,0,0⟩⟩:Za),.i r1]) {} (by unfold Zp;refine eS (a:=((⟨⟨0,0,0,⟨0,0⟩,⟨0,0⟩,0,0,0,0,0,0⟩,0,⟨0,⟨0,0⟩,0,0,0⟩⟩:Za),r1)) (fun (z:Za×Int)=>(.tuple #[Za.v z.1,.i z.2]:Value)) ?_;subst hr1;exact Zi h1 (rfl)))))))))
 ·refine TC.snr (TL.r 6 [2] [(10,.i (w64 (time-f.Track.Time)))] {} (TL.ns (TC.block (TC.sr (TL.r 1 [] [(27,.i time)] {} (TL.c 28 (ZX time 0 200000) (fun r2=>.b r2) (fun w _=>XT time 0 200000 w) {} (fun r2 hr2=>TL.r 3 [] [(29,.b r2)] {} (TL.split 29 r2 Kr (fun h2=>?_) (fun h2=>?_)))))))))
  ·refine TL.r 7 [] [(26,.b true)] {} (TL.next rfl (TC.condT rfl Kr (TC.sr (TL.r 1 [0] [(33,Za.v (⟨⟨0,0,0,⟨0,0⟩,⟨0,0⟩,0,0,0,0,0,0⟩,0,⟨0,⟨0,0⟩,0,0,0⟩⟩:Za))] {} (TL.s 1 (Bk b2 (Za.c Za.zero) 44) (fun _=>{}) (TL.r 3 [] [(7,.i 4)] {} (TL.next rfl (TC.ret (TE.rb (TE.rt ?_))))))))))
   exact TE.ret [1] (.tuple #[Za.v (⟨⟨0,0,0,⟨0,0⟩,⟨0,0⟩,0,0,0,0,0,0⟩,0,⟨0,⟨0,0⟩,0,0,0⟩⟩:Za),.i 4]) {} (by unfold Zp;refine eS (a:=((⟨⟨0,0,0,⟨0,0⟩,⟨0,0⟩,0,0,0,0,0,0⟩,0,⟨0,⟨0,0⟩,0,0,0⟩⟩:Za),4)) (fun (z:Za×Int)=>(.tuple #[Za.v z.1,.i z.2]:Value)) ?_;subst hr1 hr2;exact Zb h1 (Zi h2 (rfl)))
  ·refine TL.r 4 [] [(30,.i accel)] {} (TL.c 31 (ZX accel 0 20) (fun r3=>.b r3) (fun w _=>XT accel 0 20 w) {} (fun r3 hr3=>TL.r 7 [] [(26,.b r3)] {} (TL.next rfl (TC.cond r3 rfl Kr (fun h3=>?_) (fun h3=>?_)))))
   ·refine TC.sr (TL.r 1 [0] [(33,Za.v (⟨⟨0,0,0,⟨0,0⟩,⟨0,0⟩,0,0,0,0,0,0⟩,0,⟨0,⟨0,0⟩,0,0,0⟩⟩:Za))] {} (TL.s 1 (Bk b2 (Za.c Za.zero) 44) (fun _=>{}) (TL.r 3 [] [(7,.i 4)] {} (TL.next rfl (TC.ret (TE.rb (TE.rt ?_)))))))
    exact TE.ret [1] (.tuple #[Za.v (⟨⟨0,0,0,⟨0,0⟩,⟨0,0⟩,0,0,0,0,0,0⟩,0,⟨0,⟨0,0⟩,0,0,0⟩⟩:Za),.i 4]) {} (by unfold Zp;refine eS (a:=((⟨⟨0,0,0,⟨0,0⟩,⟨0,0⟩,0,0,0,0,0,0⟩,0,⟨0,⟨0,0⟩,0,0,0⟩⟩:Za),4)) (fun (z:Za×Int)=>(.tuple #[Za.v z.1,.i z.2]:Value)) ?_;subst hr1 hr2 hr3;exact Zb h1 (Zb h2 (Zi h3 (rfl))))
   ·refine TC.sr (TL.r 1 [] [(35,.i (w64 (time-f.Track.Time)))] {} (TL.c 36 (ZX (w64 (time-f.Track.Time)) 0 600) (fun r4=>.b r4) (fun w _=>XT (w64 (time-f.Track.Time)) 0 600 w) {} (fun r4 hr4=>TL.r 3 [] [(34,.b r4)] {} (TL.next rfl (TC.cond r4 rfl Kr (fun h4=>?_) (fun h4=>?_))))))
    ·refine TC.sr (TL.r 1 [0] [(37,Za.v (⟨⟨0,0,0,⟨0,0⟩,⟨0,0⟩,0,0,0,0,0,0⟩,0,⟨0,⟨0,0⟩,0,0,0⟩⟩:Za))] {} (TL.s 1 (Bk b2 (Za.c Za.zero) 44) (fun _=>{}) (TL.r 3 [] [(7,.i 12)] {} (TL.next rfl (TC.ret (TE.rb (TE.rt ?_)))))))
     exact TE.ret [1] (.tuple #[Za.v (⟨⟨0,0,0,⟨0,0⟩,⟨0,0⟩,0,0,0,0,0,0⟩,0,⟨0,⟨0,0⟩,0,0,0⟩⟩:Za),.i 12]) {} (by unfold Zp;refine eS (a:=((⟨⟨0,0,0,⟨0,0⟩,⟨0,0⟩,0,0,0,0,0,0⟩,0,⟨0,⟨0,0⟩,0,0,0⟩⟩:Za),12)) (fun (z:Za×Int)=>(.tuple #[Za.v z.1,.i z.2]:Value)) ?_;subst hr1 hr2 hr3 hr4;exact Zb h1 (Zb h2 (Zb h3 (Zi h4 (rfl)))))
    ·refine TC.sr (TL.r 3 [] [(38,.b ((w64 (time-f.Track.Time))==0))] {} (TL.next rfl (TC.cond ((w64 (time-f.Track.Time))==0) rfl Kr (fun h5=>?_) (fun h5=>?_))))
     ·refine TC.sr (TL.r 1 [2] [(41,Za.v f)] {} (TL.s 1 (Bk b2 (Za.c f) 44) (fun _=>{}) (TL.r 3 [] [(7,.i 0)] {} (TL.next rfl (TC.ret (TE.rb (TE.rt ?_)))))))
      exact TE.ret [1] (.tuple #[Za.v f,.i 0]) {} (by unfold Zp;refine eS (a:=(f,0)) (fun (z:Za×Int)=>(.tuple #[Za.v z.1,.i z.2]:Value)) ?_;subst hr1 hr2 hr3 hr4;exact Zb h1 (Zb h2 (Zb h3 (Zb h4 (Zi h5 (rfl))))))
     ·refine TC.skip (TE.nb (TE.nr (TL.r 2 [] [(11,.p0 b1)] {} (TL.ns (TC.drawTail 25 Kr Kr (TQ.r 12 [2,2] [(43,.p0 b1),(47,P.v f.Track.At),(54,.i (w64 (f.Track.Speed.X*(w64 (time-f.Track.Time)))))] {} (TQ.c 55 (ZS (w64 (f.Track.Speed.X*(w64 (time-f.Track.Time)))) 16) (fun r5=>.i r5) (fun w _=>QD (w64 (f.Track.Speed.X*(w64 (time-f.Track.Time)))) 16 w) rfl {} (fun r5 hr5=>TQ.r 20 [2] [(62,.i (w64 (f.Track.Speed.Y*(w64 (time-f.Track.Time)))))] {} (TQ.c 63 (ZS (w64 (f.Track.Speed.Y*(w64 (time-f.Track.Time)))) 16) (fun r6=>.i r6) (fun w _=>QD (w64 (f.Track.Speed.Y*(w64 (time-f.Track.Time)))) 16 w) rfl {} (fun r6 hr6=>TQ.r 22 [] [(64,P.v (⟨r5,r6⟩:P))] {} (TQ.c 65 (Qu f.Track.At (⟨r5,r6⟩:P)) (fun r7=>P.v r7) (fun w _=>Wq f.Track.At (⟨r5,r6⟩:P) w) rfl {} (fun r7 hr7=>TQ.r 25 [] [(67,.pt b1 3)] {} (TQ.tail rfl (TL.s 2 (Bk b1 (Za.c (⟨⟨f.Track.ID,f.Track.State,f.Track.Time,r7,f.Track.Speed,f.Track.Height,f.Track.Rate,f.Track.Radius,f.Track.Code,f.Track.Hits,f.Track.Misses⟩,f.Slack,f.Last⟩:Za)) 44) (fun _=>{}) (TL.ns (TC.drawTail 16 Kr Kr (TQ.r 11 [2,2] [(68,.p0 b1),(72,.i f.Track.Height),(78,.i (w64 (f.Track.Rate*(w64 (time-f.Track.Time)))))] {} (TQ.c 79 (ZS (w64 (f.Track.Rate*(w64 (time-f.Track.Time)))) 16) (fun r8=>.i r8) (fun w _=>QD (w64 (f.Track.Rate*(w64 (time-f.Track.Time)))) 16 w) rfl {} (fun r8 hr8=>TQ.r 13 [] [(80,.i (w64 (f.Track.Height+r8)))] {} (TQ.c 81 (Xs (w64 (f.Track.Height+r8)) 0 60000) (fun r9=>.i r9) (fun w _=>UE (w64 (f.Track.Height+r8)) 0 60000 w) rfl {} (fun r9 hr9=>TQ.r 16 [] [(83,.pt b1 7)] {} (TQ.tail rfl (TL.s 2 (Bk b1 (Za.c (⟨⟨f.Track.ID,f.Track.State,f.Track.Time,r7,f.Track.Speed,r9,f.Track.Rate,f.Track.Radius,f.Track.Code,f.Track.Hits,f.Track.Misses⟩,f.Slack,f.Last⟩:Za)) 44) (fun _=>{}) (TL.nr (TL.r 4 [2] [(86,.i f.Slack),(87,.i accel),(88,.i (w64 (time-f.Track.Time)))] {} (TL.c 89 (Qx f.Slack accel (w64 (time-f.Track.Time))) (fun r10=>.tuple #[.i r10.1,.i r10.2]) (fun w _=>Df f.Slack accel (w64 (time-f.Track.Time)) w) {} (fun r10 hr10=>TL.r 10 [] [(12,.i r10.1)] {} (TL.nr (TL.r 8 [2] [(97,.i (w64 (f.Track.Radius+r10.1))),(99,.pt b1 9)] {} (TL.s 2 (Bk b1 (Za.c (⟨⟨f.Track.ID,f.Track.State,f.Track.Time,r7,f.Track.Speed,r9,f.Track.Rate,w64 (f.Track.Radius+r10.1),f.Track.Code,f.Track.Hits,f.Track.Misses⟩,f.Slack,f.Last⟩:Za)) 44) (fun _=>{}) (TL.nr (TL.r 4 [] [(101,.i time),(103,.pt b1 2)] {} (TL.s 2 (Bk b1 (Za.c (⟨⟨f.Track.ID,f.Track.State,time,r7,f.Track.Speed,r9,f.Track.Rate,w64 (f.Track.Radius+r10.1),f.Track.Code,f.Track.Hits,f.Track.Misses⟩,f.Slack,f.Last⟩:Za)) 44) (fun _=>{}) (TL.nr (TL.r 8 [2] [(110,.i (w64 (f.Slack+(w64 ((w64 (16*accel))*(w64 (time-f.Track.Time))))))),(111,.pt b1 13)] {} (TL.s 2 (Bk b1 (Za.c (⟨⟨f.Track.ID,f.Track.State,time,r7,f.Track.Speed,r9,f.Track.Rate,w64 (f.Track.Radius+r10.1),f.Track.Code,f.Track.Hits,f.Track.Misses⟩,w64 (f.Slack+(w64 ((w64 (16*accel))*(w64 (time-f.Track.Time))))),f.Last⟩:Za)) 44) (fun _=>{}) (TL.ns (TC.sr (TL.r 1 [2] [(112,Za.v (⟨⟨f.Track.ID,f.Track.State,time,r7,f.Track.Speed,r9,f.Track.Rate,w64 (f.Track.Radius+r10.1),f.Track.Code,f.Track.Hits,f.Track.Misses⟩,w64 (f.Slack+(w64 ((w64 (16*accel))*(w64 (time-f.Track.Time))))),f.Last⟩:Za))] {} (TL.c 113 (Z2 (⟨⟨f.Track.ID,f.Track.State,time,r7,f.Track.Speed,r9,f.Track.Rate,w64 (f.Track.Radius+r10.1),f.Track.Code,f.Track.Hits,f.Track.Misses⟩,w64 (f.Slack+(w64 ((w64 (16*accel))*(w64 (time-f.Track.Time))))),f.Last⟩:Za)) (fun r11=>.i r11) (fun w _=>XG (⟨⟨f.Track.ID,f.Track.State,time,r7,f.Track.Speed,r9,f.Track.Rate,w64 (f.Track.Radius+r10.1),f.Track.Code,f.Track.Hits,f.Track.Misses⟩,w64 (f.Slack+(w64 ((w64 (16*accel))*(w64 (time-f.Track.Time))))),f.Last⟩:Za) w) {} (fun r11 hr11=>TL.r 3 [] [(114,.b (r11 != 0))] {} (TL.next rfl (TC.cond (r11 != 0) rfl Kr (fun h6=>?_) (fun h6=>?_))))))))))))))))))))))))))))))))))))))))))))
      ·exact TC.sr (TL.r 1 [0] [(115,Za.v (⟨⟨0,0,0,⟨0,0⟩,⟨0,0⟩,0,0,0,0,0,0⟩,0,⟨0,⟨0,0⟩,0,0,0⟩⟩:Za))] {} (TL.s 1 (Bk b2 (Za.c Za.zero) 44) (fun _=>{}) (TL.r 3 [] [(7,.i 8)] {} (TL.next rfl (TC.ret (TE.rt (TE.ret [1] (.tuple #[Za.v (⟨⟨0,0,0,⟨0,0⟩,⟨0,0⟩,0,0,0,0,0,0⟩,0,⟨0,⟨0,0⟩,0,0,0⟩⟩:Za),.i 8]) {} (by unfold Zp;refine eS (a:=((⟨⟨0,0,0,⟨0,0⟩,⟨0,0⟩,0,0,0,0,0,0⟩,0,⟨0,⟨0,0⟩,0,0,0⟩⟩:Za),8)) (fun (z:Za×Int)=>(.tuple #[Za.v z.1,.i z.2]:Value)) ?_;subst hr1 hr2 hr3 hr4 hr5 hr6 hr7 hr8 hr9 hr10 hr11;exact Zb h1 (Zb h2 (Zb h3 (Zb h4 (Zb h5 (Zi h6 (rfl))))))))))))))
      ·exact TC.snr (TL.r 1 [2] [(116,Za.v (⟨⟨f.Track.ID,f.Track.State,time,r7,f.Track.Speed,r9,f.Track.Rate,w64 (f.Track.Radius+r10.1),f.Track.Code,f.Track.Hits,f.Track.Misses⟩,w64 (f.Slack+(w64 ((w64 (16*accel))*(w64 (time-f.Track.Time))))),f.Last⟩:Za))] {} (TL.s 1 (Bk b2 (Za.c (⟨⟨f.Track.ID,f.Track.State,time,r7,f.Track.Speed,r9,f.Track.Rate,w64 (f.Track.Radius+r10.1),f.Track.Code,f.Track.Hits,f.Track.Misses⟩,w64 (f.Slack+(w64 ((w64 (16*accel))*(w64 (time-f.Track.Time))))),f.Last⟩:Za)) 44) (fun _=>{}) (TL.r 3 [] [(7,.i 0)] {} (TL.next rfl (TC.ret (TE.ret [1] (.tuple #[Za.v (⟨⟨f.Track.ID,f.Track.State,time,r7,f.Track.Speed,r9,f.Track.Rate,w64 (f.Track.Radius+r10.1),f.Track.Code,f.Track.Hits,f.Track.Misses⟩,w64 (f.Slack+(w64 ((w64 (16*accel))*(w64 (time-f.Track.Time))))),f.Last⟩:Za),.i 0]) {} (by unfold Zp;refine eS (a:=((⟨⟨f.Track.ID,f.Track.State,time,r7,f.Track.Speed,r9,f.Track.Rate,w64 (f.Track.Radius+r10.1),f.Track.Code,f.Track.Hits,f.Track.Misses⟩,w64 (f.Slack+(w64 ((w64 (16*accel))*(w64 (time-f.Track.Time))))),f.Last⟩:Za),0)) (fun (z:Za×Int)=>(.tuple #[Za.v z.1,.i z.2]:Value)) ?_;subst hr1 hr2 hr3 hr4 hr5 hr6 hr7 hr8 hr9 hr10 hr11;exact Zb h1 (Zb h2 (Zb h3 (Zb h4 (Zb h5 (Zb h6 (rfl)))))))))))))
def Xp (a:Int) (b_:Int) (g_:Int):Int :=
 let r1:=ZS (w64 ((w64 (b_-a))*g_)) 256
 w64 (a+r1)
set_option maxRecDepth 100000 in
theorem K7 (a:Int) (b_:Int) (g_:Int) (w:World):Calls Tryz.prog 111 #[.int .i64 a,.int .i64 b_,.int .i64 g_] w (Ret w (.int .i64 (Xp a b_ g_))):=by
 exact Zj (vs:=[.i a,.i b_,.i g_]) (w:=w) Tryz.func111 rfl Tryz.ntmps111 rfl (TC.sr (TL.r 1 [] [(6,.i 0)] {} (TL.nr (TL.r 6 [] [(7,.i a),(12,.i (w64 ((w64 (b_-a))*g_)))] {} (TL.c 13 (ZS (w64 ((w64 (b_-a))*g_)) 256) (fun r1=>.i r1) (fun w _=>QD (w64 ((w64 (b_-a))*g_)) 256 w) {} (fun r1 hr1=>TL.r 9 [] [(6,.i (w64 (a+r1)))] {} (TL.next rfl (TC.ret (TE.ret [] (.i (w64 (a+r1))) {} (by unfold Xp;refine eS (fun z=>(.i z:Value)) ?_;subst hr1;exact rfl))))))))))
def ZL (f:Za) (s:Zf) (accel:Int) (place:Int) (speed:Int):Za×Int :=
 let r1:=Z2 f
 cond (r1 != 0) (
  ((⟨⟨0,0,0,⟨0,0⟩,⟨0,0⟩,0,0,0,0,0,0⟩,0,⟨0,⟨0,0⟩,0,0,0⟩⟩:Za),r1)) (
  let r2:=Zz s
  cond (r2 != 0) (
   ((⟨⟨0,0,0,⟨0,0⟩,⟨0,0⟩,0,0,0,0,0,0⟩,0,⟨0,⟨0,0⟩,0,0,0⟩⟩:Za),r2)) (
   let r3:=ZX place 0 256
   cond r3 (
    ((⟨⟨0,0,0,⟨0,0⟩,⟨0,0⟩,0,0,0,0,0,0⟩,0,⟨0,⟨0,0⟩,0,0,0⟩⟩:Za),4)) (
    let r4:=ZX speed 0 256
    cond r4 (
     ((⟨⟨0,0,0,⟨0,0⟩,⟨0,0⟩,0,0,0,0,0,0⟩,0,⟨0,⟨0,0⟩,0,0,0⟩⟩:Za),4)) (
     cond (decide ((w64 (s.Time-f.Last.Time))≤0)) (
      ((⟨⟨0,0,0,⟨0,0⟩,⟨0,0⟩,0,0,0,0,0,0⟩,0,⟨0,⟨0,0⟩,0,0,0⟩⟩:Za),12)) (
      let r5:=Zp f s.Time accel
      cond (r5.2 != 0) (
       ((⟨⟨0,0,0,⟨0,0⟩,⟨0,0⟩,0,0,0,0,0,0⟩,0,⟨0,⟨0,0⟩,0,0,0⟩⟩:Za),r5.2)) (
       let r6:=ZQ r5.1.Track.At s.At (w64 (r5.1.Track.Radius+s.Error))
       cond (!r6) (
        ((⟨⟨0,0,0,⟨0,0⟩,⟨0,0⟩,0,0,0,0,0,0⟩,0,⟨0,⟨0,0⟩,0,0,0⟩⟩:Za),8)) (
        let r7:=Xp r5.1.Track.At.X s.At.X place
        let r8:=Xp r5.1.Track.At.Y s.At.Y place
        let r9:=Qd (w64 ((w64 ((w64 (256-place))*r5.1.Track.Radius))+(w64 (place*s.Error)))) 256
        let r10:=ZS (w64 (16*(w64 (s.At.X-f.Last.At.X)))) (w64 (s.Time-f.Last.Time))
        let r11:=ZS (w64 (16*(w64 (s.At.Y-f.Last.At.Y)))) (w64 (s.Time-f.Last.Time))
        let r12:=Xp r5.1.Track.Speed.X r10 speed
        let r13:=Xp r5.1.Track.Speed.Y r11 speed
        let r14:=Qd (w64 (16*(w64 (s.Error+f.Last.Error)))) (w64 (s.Time-f.Last.Time))
        let r15:=Qd (w64 ((w64 ((w64 (256-speed))*r5.1.Slack))+(w64 (speed*(w64 ((w64 (r14+(w64 ((w64 (16*accel))*(w64 (s.Time-f.Last.Time))))))+2)))))) 256
        let r16:=ZS (w64 (16*(w64 (s.Height-f.Last.Height)))) (w64 (s.Time-f.Last.Time))
        let r17:=Xs r16 (-3200) 3200
        cond (s.Code != (-1)) (
         let r18:=Z2 (⟨⟨r5.1.Track.ID,r5.1.Track.State,r5.1.Track.Time,⟨r7,r8⟩,⟨r12,r13⟩,s.Height,r17,w64 (r9+2),s.Code,w64 (r5.1.Track.Hits+1),0⟩,w64 (r15+2),s⟩:Za)
         cond (r18 != 0) (
          ((⟨⟨0,0,0,⟨0,0⟩,⟨0,0⟩,0,0,0,0,0,0⟩,0,⟨0,⟨0,0⟩,0,0,0⟩⟩:Za),8)) (
          ((⟨⟨r5.1.Track.ID,r5.1.Track.State,r5.1.Track.Time,⟨r7,r8⟩,⟨r12,r13⟩,s.Height,r17,w64 (r9+2),s.Code,w64 (r5.1.Track.Hits+1),0⟩,w64 (r15+2),s⟩:Za),0))) (
         let r19:=Z2 (⟨⟨r5.1.Track.ID,r5.1.Track.State,r5.1.Track.Time,⟨r7,r8⟩,⟨r12,r13⟩,s.Height,r17,w64 (r9+2),r5.1.Track.Code,w64 (r5.1.Track.Hits+1),0⟩,w64 (r15+2),s⟩:Za)
         cond (r19 != 0) (
          ((⟨⟨0,0,0,⟨0,0⟩,⟨0,0⟩,0,0,0,0,0,0⟩,0,⟨0,⟨0,0⟩,0,0,0⟩⟩:Za),8)) (
          ((⟨⟨r5.1.Track.ID,r5.1.Track.State,r5.1.Track.Time,⟨r7,r8⟩,⟨r12,r13⟩,s.Height,r17,w64 (r9+2),r5.1.Track.Code,w64 (r5.1.Track.Hits+1),0⟩,w64 (r15+2),s⟩:Za),0))))))))))
set_option maxHeartbeats 4000000 in
set_option maxRecDepth 100000 in
theorem W1 (f:Za) (s:Zf) (accel:Int) (place:Int) (speed:Int) (w:World):Calls Tryz.prog 53 #[Za.v f,Zf.v s,.int .i64 accel,.int .i64 place,.int .i64 speed] w (Ret w (.tuple #[Za.v ((ZL f s accel place speed).1),.int .i64 ((ZL f s accel place speed).2)])):=by
 refine Zj (vs:=[Za.v f,Zf.v s,.i accel,.i place,.i speed]) (w:=w) Tryz.func53 rfl Tryz.ntmps53 rfl (TC.sr (TL.nw 5 (fun b1=>.p0 b1) (fun b1=>Bk b1 (Za.c f) 44) (fun b1=>{}) (fun b1=>TL.nw 6 (fun b2=>.p0 b2) (fun b2=>Bk b2 (Zf.c s) 42) (fun b2=>{}) (fun b2=>TL.nw 10 (fun b3=>.p0 b3) (fun b3=>Bk b3 (Za.c Za.zero) 44) (fun b3=>{}) (fun b3=>TL.r 4 [] [(11,.i 0)] {} (TL.nr (TL.r 1 [] [(22,Za.v Za.zero)] {} (TL.nw 12 (fun b4=>.p0 b4) (fun b4=>Bk b4 (Za.c Za.zero) 44) (fun b4=>{}) (fun b4=>TL.s 0 (Bk b4 (Za.c Za.zero) 44) (fun _=>{}) (TL.ns (TC.sr (TL.r 1 [3] [(23,Za.v f)] {} (TL.c 24 (Z2 f) (fun r1=>.i r1) (fun w _=>XG f w) {} (fun r1 hr1=>TL.r 3 [] [(13,.i r1)] {} (TL.nr (TL.r 2 [] [(26,.b (r1 != 0))] {} (TL.next rfl (TC.cond (r1 != 0) rfl Kr (fun h1=>?_) (fun h1=>?_)))))))))))))))))))
 ·exact TC.sr (TL.r 2 [0] [(27,Za.v (⟨⟨0,0,0,⟨0,0⟩,⟨0,0⟩,0,0,0,0,0,0⟩,0,⟨0,⟨0,0⟩,0,0,0⟩⟩:Za)),(28,.i r1)] {} (TL.s 1 (Bk b3 (Za.c Za.zero) 44) (fun _=>{}) (TL.r 4 [] [(11,.i r1)] {} (TL.next rfl (TC.ret (TE.rt (TE.ret [1] (.tuple #[Za.v (⟨⟨0,0,0,⟨0,0⟩,⟨0,0⟩,0,0,0,0,0,0⟩,0,⟨0,⟨0,0⟩,0,0,0⟩⟩:Za),.i r1]) {} (by unfold ZL;refine eS (a:=((⟨⟨0,0,0,⟨0,0⟩,⟨0,0⟩,0,0,0,0,0,0⟩,0,⟨0,⟨0,0⟩,0,0,0⟩⟩:Za),r1)) (fun (z:Za×Int)=>(.tuple #[Za.v z.1,.i z.2]:Value)) ?_;subst hr1;exact Zi h1 (rfl)))))))))
 ·refine TC.sn (TC.seq (TC.sr (TL.r 1 [2] [(29,Zf.v s)] {} (TL.c 30 (Zz s) (fun r2=>.i r2) (fun w _=>Xq s w) {} (fun r2 hr2=>TL.r 3 [] [(14,.i r2)] {} (TL.nr (TL.r 2 [] [(32,.b (r2 != 0))] {} (TL.next rfl (TC.cond (r2 != 0) rfl Kr (fun h2=>?_) (fun h2=>?_))))))))))
  ·exact TC.sr (TL.r 2 [0] [(33,Za.v (⟨⟨0,0,0,⟨0,0⟩,⟨0,0⟩,0,0,0,0,0,0⟩,0,⟨0,⟨0,0⟩,0,0,0⟩⟩:Za)),(34,.i r2)] {} (TL.s 1 (Bk b3 (Za.c Za.zero) 44) (fun _=>{}) (TL.r 4 [] [(11,.i r2)] {} (TL.next rfl (TC.ret (TE.rt (TE.ret [1] (.tuple #[Za.v (⟨⟨0,0,0,⟨0,0⟩,⟨0,0⟩,0,0,0,0,0,0⟩,0,⟨0,⟨0,0⟩,0,0,0⟩⟩:Za),.i r2]) {} (by unfold ZL;refine eS (a:=((⟨⟨0,0,0,⟨0,0⟩,⟨0,0⟩,0,0,0,0,0,0⟩,0,⟨0,⟨0,0⟩,0,0,0⟩⟩:Za),r2)) (fun (z:Za×Int)=>(.tuple #[Za.v z.1,.i z.2]:Value)) ?_;subst hr1 hr2;exact Zb h1 (Zi h2 (rfl))))))))))
  ·refine TC.snr (TL.r 7 [2,3] [(15,.i (w64 (s.Time-f.Last.Time)))] {} (TL.ns (TC.block (TC.sr (TL.r 1 [] [(42,.i place)] {} (TL.c 43 (ZX place 0 256) (fun r3=>.b r3) (fun w _=>XT place 0 256 w) {} (fun r3 hr3=>TL.r 3 [] [(44,.b r3)] {} (TL.split 44 r3 Kr (fun h3=>?_) (fun h3=>?_)))))))))
   ·refine TL.r 7 [] [(41,.b true)] {} (TL.next rfl (TC.condT rfl Kr (TC.sr (TL.r 1 [0] [(48,Za.v (⟨⟨0,0,0,⟨0,0⟩,⟨0,0⟩,0,0,0,0,0,0⟩,0,⟨0,⟨0,0⟩,0,0,0⟩⟩:Za))] {} (TL.s 1 (Bk b3 (Za.c Za.zero) 44) (fun _=>{}) (TL.r 3 [] [(11,.i 4)] {} (TL.next rfl (TC.ret (TE.rb (TE.rt ?_))))))))))
    exact TE.ret [1] (.tuple #[Za.v (⟨⟨0,0,0,⟨0,0⟩,⟨0,0⟩,0,0,0,0,0,0⟩,0,⟨0,⟨0,0⟩,0,0,0⟩⟩:Za),.i 4]) {} (by unfold ZL;refine eS (a:=((⟨⟨0,0,0,⟨0,0⟩,⟨0,0⟩,0,0,0,0,0,0⟩,0,⟨0,⟨0,0⟩,0,0,0⟩⟩:Za),4)) (fun (z:Za×Int)=>(.tuple #[Za.v z.1,.i z.2]:Value)) ?_;subst hr1 hr2 hr3;exact Zb h1 (Zb h2 (Zi h3 (rfl))))
   ·refine TL.r 4 [] [(45,.i speed)] {} (TL.c 46 (ZX speed 0 256) (fun r4=>.b r4) (fun w _=>XT speed 0 256 w) {} (fun r4 hr4=>TL.r 7 [] [(41,.b r4)] {} (TL.next rfl (TC.cond r4 rfl Kr (fun h4=>?_) (fun h4=>?_)))))
    ·refine TC.sr (TL.r 1 [0] [(48,Za.v (⟨⟨0,0,0,⟨0,0⟩,⟨0,0⟩,0,0,0,0,0,0⟩,0,⟨0,⟨0,0⟩,0,0,0⟩⟩:Za))] {} (TL.s 1 (Bk b3 (Za.c Za.zero) 44) (fun _=>{}) (TL.r 3 [] [(11,.i 4)] {} (TL.next rfl (TC.ret (TE.rb (TE.rt ?_)))))))
     exact TE.ret [1] (.tuple #[Za.v (⟨⟨0,0,0,⟨0,0⟩,⟨0,0⟩,0,0,0,0,0,0⟩,0,⟨0,⟨0,0⟩,0,0,0⟩⟩:Za),.i 4]) {} (by unfold ZL;refine eS (a:=((⟨⟨0,0,0,⟨0,0⟩,⟨0,0⟩,0,0,0,0,0,0⟩,0,⟨0,⟨0,0⟩,0,0,0⟩⟩:Za),4)) (fun (z:Za×Int)=>(.tuple #[Za.v z.1,.i z.2]:Value)) ?_;subst hr1 hr2 hr3 hr4;exact Zb h1 (Zb h2 (Zb h3 (Zi h4 (rfl)))))
    ·refine TC.sr (TL.r 3 [] [(49,.b (decide ((w64 (s.Time-f.Last.Time))≤0)))] {} (TL.next rfl (TC.cond (decide ((w64 (s.Time-f.Last.Time))≤0)) rfl Kr (fun h5=>?_) (fun h5=>?_))))
     ·refine TC.sr (TL.r 1 [0] [(52,Za.v (⟨⟨0,0,0,⟨0,0⟩,⟨0,0⟩,0,0,0,0,0,0⟩,0,⟨0,⟨0,0⟩,0,0,0⟩⟩:Za))] {} (TL.s 1 (Bk b3 (Za.c Za.zero) 44) (fun _=>{}) (TL.r 3 [] [(11,.i 12)] {} (TL.next rfl (TC.ret (TE.rb (TE.rt ?_)))))))
      exact TE.ret [1] (.tuple #[Za.v (⟨⟨0,0,0,⟨0,0⟩,⟨0,0⟩,0,0,0,0,0,0⟩,0,⟨0,⟨0,0⟩,0,0,0⟩⟩:Za),.i 12]) {} (by unfold ZL;refine eS (a:=((⟨⟨0,0,0,⟨0,0⟩,⟨0,0⟩,0,0,0,0,0,0⟩,0,⟨0,⟨0,0⟩,0,0,0⟩⟩:Za),12)) (fun (z:Za×Int)=>(.tuple #[Za.v z.1,.i z.2]:Value)) ?_;subst hr1 hr2 hr3 hr4;exact Zb h1 (Zb h2 (Zb h3 (Zb h4 (Zi h5 (rfl))))))
     ·refine TC.skip (TE.nb (TE.nr (TL.r 4 [3,2] [(54,Za.v f),(56,.i s.Time),(57,.i accel)] {} (TL.c 58 (Zp f s.Time accel) (fun r5=>.tuple #[Za.v r5.1,.i r5.2]) (fun w _=>JQ f s.Time accel w) {} (fun r5 hr5=>TL.r 8 [] [(59,Za.v r5.1),(60,.i r5.2)] {} (TL.nw 16 (fun b5=>.p0 b5) (fun b5=>Bk b5 (Za.c Za.zero) 44) (fun b5=>{}) (fun b5=>TL.s 0 (Bk b5 (Za.c r5.1) 44) (fun _=>{}) (TL.r 11 [] [(17,.i r5.2)] {} (TL.ns (TC.sr (TL.r 2 [] [(62,.b (r5.2 != 0))] {} (TL.next rfl (TC.cond (r5.2 != 0) rfl Kr (fun h6=>?_) (fun h6=>?_))))))))))))))
      ·exact TC.sr (TL.r 2 [1] [(63,Za.v (⟨⟨0,0,0,⟨0,0⟩,⟨0,0⟩,0,0,0,0,0,0⟩,0,⟨0,⟨0,0⟩,0,0,0⟩⟩:Za)),(64,.i r5.2)] {} (TL.s 2 (Bk b3 (Za.c Za.zero) 44) (fun _=>{}) (TL.r 4 [] [(11,.i r5.2)] {} (TL.next rfl (TC.ret (TE.rt (TE.ret [2] (.tuple #[Za.v (⟨⟨0,0,0,⟨0,0⟩,⟨0,0⟩,0,0,0,0,0,0⟩,0,⟨0,⟨0,0⟩,0,0,0⟩⟩:Za),.i r5.2]) {} (by unfold ZL;refine eS (a:=((⟨⟨0,0,0,⟨0,0⟩,⟨0,0⟩,0,0,0,0,0,0⟩,0,⟨0,⟨0,0⟩,0,0,0⟩⟩:Za),r5.2)) (fun (z:Za×Int)=>(.tuple #[Za.v z.1,.i z.2]:Value)) ?_;subst hr1 hr2 hr3 hr4 hr5;exact Zb h1 (Zb h2 (Zb h3 (Zb h4 (Zb h5 (Zi h6 (rfl))))))))))))))
      ·refine TC.sn (TC.seq (TC.sr (TL.r 11 [0,3,0,3] [(67,P.v r5.1.Track.At),(69,P.v s.At),(75,.i (w64 (r5.1.Track.Radius+s.Error)))] {} (TL.c 76 (ZQ r5.1.Track.At s.At (w64 (r5.1.Track.Radius+s.Error))) (fun r6=>.b r6) (fun w _=>QN r5.1.Track.At s.At (w64 (r5.1.Track.Radius+s.Error)) w) {} (fun r6 hr6=>TL.r 13 [] [(77,.b (!r6))] {} (TL.next rfl (TC.cond (!r6) rfl Kr (fun h7=>?_) (fun h7=>?_))))))))
       ·exact TC.sr (TL.r 1 [1] [(78,Za.v (⟨⟨0,0,0,⟨0,0⟩,⟨0,0⟩,0,0,0,0,0,0⟩,0,⟨0,⟨0,0⟩,0,0,0⟩⟩:Za))] {} (TL.s 2 (Bk b3 (Za.c Za.zero) 44) (fun _=>{}) (TL.r 3 [] [(11,.i 8)] {} (TL.next rfl (TC.ret (TE.rt (TE.ret [2] (.tuple #[Za.v (⟨⟨0,0,0,⟨0,0⟩,⟨0,0⟩,0,0,0,0,0,0⟩,0,⟨0,⟨0,0⟩,0,0,0⟩⟩:Za),.i 8]) {} (by unfold ZL;refine eS (a:=((⟨⟨0,0,0,⟨0,0⟩,⟨0,0⟩,0,0,0,0,0,0⟩,0,⟨0,⟨0,0⟩,0,0,0⟩⟩:Za),8)) (fun (z:Za×Int)=>(.tuple #[Za.v z.1,.i z.2]:Value)) ?_;subst hr1 hr2 hr3 hr4 hr5 hr6;exact Zb h1 (Zb h2 (Zb h3 (Zb h4 (Zb h5 (Zb h6 (Zi h7 (rfl)))))))))))))))
       ·refine TC.snr (TL.r 1 [0] [(79,Za.v r5.1)] {} (TL.nw 18 (fun b6=>.p0 b6) (fun b6=>Bk b6 (Za.c Za.zero) 44) (fun b6=>{}) (fun b6=>TL.s 0 (Bk b6 (Za.c r5.1) 44) (fun _=>{}) (TL.nr (TL.r 2 [] [(19,.p0 b6)] {} (TL.ns (TC.drawTail 22 Kr Kr (TQ.r 9 [1,4] [(81,.p0 b6),(85,.i r5.1.Track.At.X),(88,.i s.At.X),(89,.i place)] {} (TQ.c 90 (Xp r5.1.Track.At.X s.At.X place) (fun r7=>.i r7) (fun w _=>K7 r5.1.Track.At.X s.At.X place w) rfl {} (fun r7 hr7=>TQ.r 18 [1,4] [(94,.i r5.1.Track.At.Y),(97,.i s.At.Y),(98,.i place)] {} (TQ.c 99 (Xp r5.1.Track.At.Y s.At.Y place) (fun r8=>.i r8) (fun w _=>K7 r5.1.Track.At.Y s.At.Y place w) rfl {} (fun r8 hr8=>TQ.r 22 [] [(100,P.v (⟨r7,r8⟩:P)),(102,.pt b6 3)] {} (TQ.tail rfl (TL.s 0 (Bk b6 (Za.c (⟨⟨r5.1.Track.ID,r5.1.Track.State,r5.1.Track.Time,⟨r7,r8⟩,r5.1.Track.Speed,r5.1.Track.Height,r5.1.Track.Rate,r5.1.Track.Radius,r5.1.Track.Code,r5.1.Track.Hits,r5.1.Track.Misses⟩,r5.1.Slack,r5.1.Last⟩:Za)) 44) (fun _=>{}) (TL.nr (TL.r 12 [1,4] [(103,.p0 b6),(114,.i (w64 ((w64 ((w64 (256-place))*r5.1.Track.Radius))+(w64 (place*s.Error)))))] {} (TL.c 115 (Qd (w64 ((w64 ((w64 (256-place))*r5.1.Track.Radius))+(w64 (place*s.Error)))) 256) (fun r9=>.i r9) (fun w _=>Ua (w64 ((w64 ((w64 (256-place))*r5.1.Track.Radius))+(w64 (place*s.Error)))) 256 w) {} (fun r9 hr9=>TL.r 16 [] [(116,.i (w64 (r9+2))),(118,.pt b6 9)] {} (TL.s 0 (Bk b6 (Za.c (⟨⟨r5.1.Track.ID,r5.1.Track.State,r5.1.Track.Time,⟨r7,r8⟩,r5.1.Track.Speed,r5.1.Track.Height,r5.1.Track.Rate,w64 (r9+2),r5.1.Track.Code,r5.1.Track.Hits,r5.1.Track.Misses⟩,r5.1.Slack,r5.1.Last⟩:Za)) 44) (fun _=>{}) (TL.ns ?_))))))))))))))))))))
        obtain⟨r10,hr10⟩:∃ r,ZS (w64 (16*(w64 (s.At.X-f.Last.At.X)))) (w64 (s.Time-f.Last.Time))=r:=⟨_,rfl⟩
        obtain⟨r11,hr11⟩:∃ r,ZS (w64 (16*(w64 (s.At.Y-f.Last.At.Y)))) (w64 (s.Time-f.Last.Time))=r:=⟨_,rfl⟩
        let Mr22_:Mem:=[Bk b6 (Za.c (⟨⟨r5.1.Track.ID,r5.1.Track.State,r5.1.Track.Time,⟨r7,r8⟩,r5.1.Track.Speed,r5.1.Track.Height,r5.1.Track.Rate,w64 (r9+2),r5.1.Track.Code,r5.1.Track.Hits,r5.1.Track.Misses⟩,r5.1.Slack,r5.1.Last⟩:Za)) 44,Bk b5 (Za.c r5.1) 44,Bk b4 (Za.c Za.zero) 44,Bk b3 (Za.c Za.zero) 44,Bk b2 (Zf.c s) 42,Bk b1 (Za.c f) 44]
        refine TC.plan (G:=Nat) (base:=[(2,.i accel),(4,.i speed),(5,.p0 b1),(6,.p0 b2),(10,.p0 b3),(12,.p0 b4),(15,.i (w64 (s.Time-f.Last.Time))),(16,.p0 b5),(18,.p0 b6),(19,.p0 b6)]) (vals:=fun γ=>[.pt b2 1,.pt b2 1,.i s.At.X,.pt b1 14,.pt b1 15,.pt b1 15,.i f.Last.At.X,.i (w64 (s.At.X-f.Last.At.X)),.i (w64 (16*(w64 (s.At.X-f.Last.At.X)))),.i (w64 (s.Time-f.Last.Time)),.i r10,.pt b2 1,.pt b2 2,.i s.At.Y,.pt b1 14,.pt b1 15,.pt b1 16,.i f.Last.At.Y,.i (w64 (s.At.Y-f.Last.At.Y)),.i (w64 (16*(w64 (s.At.Y-f.Last.At.Y)))),.i (w64 (s.Time-f.Last.Time)),.i r11,P.v (⟨r10,r11⟩:P),.p0 γ,undef]) (writes:=[23,24]) (mem:=fun bs γ=>match bs with | [x23_,x24_]=>(bif x24_ then [Bk γ (P.c (⟨r10,r11⟩:P)) 36] else bif x23_ then [Bk γ (P.c P.zero) 36] else [])++(Mr22_)|_=>[]) (0) (fun γ=>[(2,.i accel),(4,.i speed),(5,.p0 b1),(6,.p0 b2),(10,.p0 b3),(12,.p0 b4),(15,.i (w64 (s.Time-f.Last.Time))),(16,.p0 b5),(18,.p0 b6),(19,.p0 b6),(20,.p0 γ)]) Kr Kr Kr Kr Kr (fun γ=>Kr) (fun _ hM=>hM) (fun γ=>Kr) ?_ ?_
        ·skip
         exact Steps.run (i:=0) 10 [0,0,4,0,0,0,5,0,0,0] Mr22_ Kr Kr (fun S (γ:Nat) w hM=>by rw[mS2 rfl rfl] at hM;exact hM.sub (Zk (List.Sublist.refl _))) Kr (fun (γ:Nat)=>{}) (Steps.call (i:=10) 99 (fun (γ:Nat)=>#[.i (w64 (16*(w64 (s.At.X-f.Last.At.X)))),.i (w64 (s.Time-f.Last.Time))]) (some 129) (fun (γ:Nat)=>.i r10) (fun (γ:Nat)=>[Bk b6 (Za.c (⟨⟨r5.1.Track.ID,r5.1.Track.State,r5.1.Track.Time,⟨r7,r8⟩,r5.1.Track.Speed,r5.1.Track.Height,r5.1.Track.Rate,w64 (r9+2),r5.1.Track.Code,r5.1.Track.Hits,r5.1.Track.Misses⟩,r5.1.Slack,r5.1.Last⟩:Za)) 44,Bk b5 (Za.c r5.1) 44,Bk b4 (Za.c Za.zero) 44,Bk b3 (Za.c Za.zero) 44,Bk b2 (Zf.c s) 42,Bk b1 (Za.c f) 44]) Kr (fun S (γ:Nat) w _ hM=>by rw[mS2 rfl rfl] at hM;exact hM.sub (Zk (List.Sublist.refl _))) (fun (γ:Nat) w _=>by have h:=QD (w64 (16*(w64 (s.At.X-f.Last.At.X)))) (w64 (s.Time-f.Last.Time)) w;rw[hr10] at h;exact h) (fun (γ:Nat)=>Kr) (fun (γ:Nat)=>Kr) (Steps.run (i:=11) 21 [0,0,4,0,0,0,5,0,0,0] Mr22_ Kr Kr (fun S (γ:Nat) w hM=>by rw[mS2 rfl rfl] at hM;exact hM.sub (Zk (List.Sublist.refl _))) Kr (fun (γ:Nat)=>{}) (Steps.call (i:=21) 99 (fun (γ:Nat)=>#[.i (w64 (16*(w64 (s.At.Y-f.Last.At.Y)))),.i (w64 (s.Time-f.Last.Time))]) (some 140) (fun (γ:Nat)=>.i r11) (fun (γ:Nat)=>[Bk b6 (Za.c (⟨⟨r5.1.Track.ID,r5.1.Track.State,r5.1.Track.Time,⟨r7,r8⟩,r5.1.Track.Speed,r5.1.Track.Height,r5.1.Track.Rate,w64 (r9+2),r5.1.Track.Code,r5.1.Track.Hits,r5.1.Track.Misses⟩,r5.1.Slack,r5.1.Last⟩:Za)) 44,Bk b5 (Za.c r5.1) 44,Bk b4 (Za.c Za.zero) 44,Bk b3 (Za.c Za.zero) 44,Bk b2 (Zf.c s) 42,Bk b1 (Za.c f) 44]) Kr (fun S (γ:Nat) w _ hM=>by rw[mS2 rfl rfl] at hM;exact hM.sub (Zk (List.Sublist.refl _))) (fun (γ:Nat) w _=>by have h:=QD (w64 (16*(w64 (s.At.Y-f.Last.At.Y)))) (w64 (s.Time-f.Last.Time)) w;rw[hr11] at h;exact h) (fun (γ:Nat)=>Kr) (fun (γ:Nat)=>Kr) (Steps.run (i:=22) 23 [0] Mr22_ Kr Kr (fun S (γ:Nat) w hM=>by rw[mS2 rfl rfl] at hM;exact hM.sub (Zk (List.Sublist.refl _))) Kr (fun (γ:Nat)=>{}) (Steps.op (i:=23) (Γ:=Nat) (fun g (γ:Nat)=>g) (fun _=>[]) (fun b (γ:Nat)=>[Bk b (P.c P.zero) 36]) (fun S (γ:Nat)=>Mr22_) [23,24] (fun (γ:Nat)=>sV (Instr.alloc 36 true (.tuple #[]))) (some 20) (fun b (γ:Nat)=>.p0 b) (fun S (γ:Nat) hj hd hl=>by rw[mS2 hj (hl 24 Kr)];exact List.Perm.refl _) (fun S (γ:Nat) g hl=>by rw[mS2 (S:=upS S 23) (a0:=23) (a1:=24) rfl (hl 24 Kr)];exact(List.Perm.refl _).symm) (fun (γ:Nat) M' w hM=>Q2 (v:=fun b=>.p0 b) (fun b M=>Kr) M' w hM) (fun (γ:Nat)=>Kr) (fun (γ:Nat) g=>Kr) Kr (fun (γ:Nat) g=>Kr) (Steps.put (i:=24) (fun (γ:Nat)=>[Bk γ (P.c P.zero) 36]) (fun (γ:Nat)=>[Bk γ (P.c (⟨r10,r11⟩:P)) 36]) (fun S (γ:Nat)=>Mr22_) (fun (γ:Nat)=>sU (Instr.storeAt 36 (.p0 γ) (P.v (⟨r10,r11⟩:P)))) none (fun S (γ:Nat) hj hd hl=>by rw[mS2 (hd 23 Kr) hj];exact List.Perm.refl _) (fun S (γ:Nat) _=>(List.Perm.refl _).symm) (fun (γ:Nat) M' w hM=>QV (fun b M=>Kr) (fun b M=>Kr) M' w hM) (fun (γ:Nat)=>Kr) (fun (γ:Nat)=>Kr) (Steps.done Kr)))))))
        ·rintro b7
         refine TE.conv [Bk b7 (P.c (⟨r10,r11⟩:P)) 36,Bk b6 (Za.c (⟨⟨r5.1.Track.ID,r5.1.Track.State,r5.1.Track.Time,⟨r7,r8⟩,r5.1.Track.Speed,r5.1.Track.Height,r5.1.Track.Rate,w64 (r9+2),r5.1.Track.Code,r5.1.Track.Hits,r5.1.Track.Misses⟩,r5.1.Slack,r5.1.Last⟩:Za)) 44,Bk b5 (Za.c r5.1) 44,Bk b4 (Za.c Za.zero) 44,Bk b3 (Za.c Za.zero) 44,Bk b2 (Zf.c s) 42,Bk b1 (Za.c f) 44] (fun _ hM=>hM) (TE.next (TC.seq (TC.drawTail 20 Kr Kr (TQ.r 8 [2,0] [(142,.p0 b6),(146,.i r5.1.Track.Speed.X),(148,.i r10),(149,.i speed)] {} (TQ.c 150 (Xp r5.1.Track.Speed.X r10 speed) (fun r12=>.i r12) (fun w _=>K7 r5.1.Track.Speed.X r10 speed w) rfl {} (fun r12 hr12=>TQ.r 16 [2,0] [(154,.i r5.1.Track.Speed.Y),(156,.i r11),(157,.i speed)] {} (TQ.c 158 (Xp r5.1.Track.Speed.Y r11 speed) (fun r13=>.i r13) (fun w _=>K7 r5.1.Track.Speed.Y r11 speed w) rfl {} (fun r13 hr13=>TQ.r 20 [] [(159,P.v (⟨r12,r13⟩:P)),(161,.pt b6 5)] {} (TQ.tail rfl (TL.s 1 (Bk b6 (Za.c (⟨⟨r5.1.Track.ID,r5.1.Track.State,r5.1.Track.Time,⟨r7,r8⟩,⟨r12,r13⟩,r5.1.Track.Height,r5.1.Track.Rate,w64 (r9+2),r5.1.Track.Code,r5.1.Track.Hits,r5.1.Track.Misses⟩,r5.1.Slack,r5.1.Last⟩:Za)) 44) (fun _=>{}) (TL.nr (TL.r 8 [5,6] [(168,.i (w64 (16*(w64 (s.Error+f.Last.Error))))),(169,.i (w64 (s.Time-f.Last.Time)))] {} (TL.c 170 (Qd (w64 (16*(w64 (s.Error+f.Last.Error)))) (w64 (s.Time-f.Last.Time))) (fun r14=>.i r14) (fun w _=>Ua (w64 (16*(w64 (s.Error+f.Last.Error)))) (w64 (s.Time-f.Last.Time)) w) {} (fun r14 hr14=>TL.r 16 [] [(21,.i (w64 ((w64 (r14+(w64 ((w64 (16*accel))*(w64 (s.Time-f.Last.Time))))))+2)))] {} (TL.nr (TL.r 9 [2] [(185,.i (w64 ((w64 ((w64 (256-speed))*r5.1.Slack))+(w64 (speed*(w64 ((w64 (r14+(w64 ((w64 (16*accel))*(w64 (s.Time-f.Last.Time))))))+2)))))))] {} (TL.c 186 (Qd (w64 ((w64 ((w64 (256-speed))*r5.1.Slack))+(w64 (speed*(w64 ((w64 (r14+(w64 ((w64 (16*accel))*(w64 (s.Time-f.Last.Time))))))+2)))))) 256) (fun r15=>.i r15) (fun w _=>Ua (w64 ((w64 ((w64 (256-speed))*r5.1.Slack))+(w64 (speed*(w64 ((w64 (r14+(w64 ((w64 (16*accel))*(w64 (s.Time-f.Last.Time))))))+2)))))) 256 w) {} (fun r15 hr15=>TL.r 12 [] [(187,.i (w64 (r15+2))),(188,.pt b6 13)] {} (TL.s 1 (Bk b6 (Za.c (⟨⟨r5.1.Track.ID,r5.1.Track.State,r5.1.Track.Time,⟨r7,r8⟩,⟨r12,r13⟩,r5.1.Track.Height,r5.1.Track.Rate,w64 (r9+2),r5.1.Track.Code,r5.1.Track.Hits,r5.1.Track.Misses⟩,w64 (r15+2),r5.1.Last⟩:Za)) 44) (fun _=>{}) (TL.nr (TL.r 9 [5,6] [(189,.p0 b6),(196,.i (w64 (16*(w64 (s.Height-f.Last.Height))))),(197,.i (w64 (s.Time-f.Last.Time)))] {} (TL.c 198 (ZS (w64 (16*(w64 (s.Height-f.Last.Height)))) (w64 (s.Time-f.Last.Time))) (fun r16=>.i r16) (fun w _=>QD (w64 (16*(w64 (s.Height-f.Last.Height)))) (w64 (s.Time-f.Last.Time)) w) {} (fun r16 hr16=>TL.c 199 (Xs r16 (-3200) 3200) (fun r17=>.i r17) (fun w _=>UE r16 (-3200) 3200 w) {} (fun r17 hr17=>TL.r 13 [] [(201,.pt b6 8)] {} (TL.s 1 (Bk b6 (Za.c (⟨⟨r5.1.Track.ID,r5.1.Track.State,r5.1.Track.Time,⟨r7,r8⟩,⟨r12,r13⟩,r5.1.Track.Height,r17,w64 (r9+2),r5.1.Track.Code,r5.1.Track.Hits,r5.1.Track.Misses⟩,w64 (r15+2),r5.1.Last⟩:Za)) 44) (fun _=>{}) (TL.nr (TL.r 5 [5] [(204,.i s.Height),(206,.pt b6 7)] {} (TL.s 1 (Bk b6 (Za.c (⟨⟨r5.1.Track.ID,r5.1.Track.State,r5.1.Track.Time,⟨r7,r8⟩,⟨r12,r13⟩,s.Height,r17,w64 (r9+2),r5.1.Track.Code,r5.1.Track.Hits,r5.1.Track.Misses⟩,w64 (r15+2),r5.1.Last⟩:Za)) 44) (fun _=>{}) (TL.ns (TC.sr (TL.r 3 [5] [(209,.b (s.Code != (-1)))] {} (TL.next rfl (TC.cond (s.Code != (-1)) rfl Kr (fun h8=>?_) (fun h8=>?_))))))))))))))))))))))))))))))))))
         ·refine TC.region (TL.r 5 [5] [(212,.i s.Code),(214,.pt b6 10)] {} (TL.s 1 (Bk b6 (Za.c (⟨⟨r5.1.Track.ID,r5.1.Track.State,r5.1.Track.Time,⟨r7,r8⟩,⟨r12,r13⟩,s.Height,r17,w64 (r9+2),s.Code,r5.1.Track.Hits,r5.1.Track.Misses⟩,w64 (r15+2),r5.1.Last⟩:Za)) 44) (fun _=>{}) (TL.nr (TL.r 7 [1] [(219,.i (w64 (r5.1.Track.Hits+1))),(221,.pt b6 11)] {} (TL.s 1 (Bk b6 (Za.c (⟨⟨r5.1.Track.ID,r5.1.Track.State,r5.1.Track.Time,⟨r7,r8⟩,⟨r12,r13⟩,s.Height,r17,w64 (r9+2),s.Code,w64 (r5.1.Track.Hits+1),r5.1.Track.Misses⟩,w64 (r15+2),r5.1.Last⟩:Za)) 44) (fun _=>{}) (TL.nr (TL.r 3 [] [(224,.pt b6 12)] {} (TL.s 1 (Bk b6 (Za.c (⟨⟨r5.1.Track.ID,r5.1.Track.State,r5.1.Track.Time,⟨r7,r8⟩,⟨r12,r13⟩,s.Height,r17,w64 (r9+2),s.Code,w64 (r5.1.Track.Hits+1),0⟩,w64 (r15+2),r5.1.Last⟩:Za)) 44) (fun _=>{}) (TL.nr (TL.r 2 [5] [(225,Zf.v s),(226,.pt b6 14)] {} (TL.s 1 (Bk b6 (Za.c (⟨⟨r5.1.Track.ID,r5.1.Track.State,r5.1.Track.Time,⟨r7,r8⟩,⟨r12,r13⟩,s.Height,r17,w64 (r9+2),s.Code,w64 (r5.1.Track.Hits+1),0⟩,w64 (r15+2),s⟩:Za)) 44) (fun _=>{}) (TL.ns (TC.sr (TL.r 1 [1] [(227,Za.v (⟨⟨r5.1.Track.ID,r5.1.Track.State,r5.1.Track.Time,⟨r7,r8⟩,⟨r12,r13⟩,s.Height,r17,w64 (r9+2),s.Code,w64 (r5.1.Track.Hits+1),0⟩,w64 (r15+2),s⟩:Za))] {} (TL.c 228 (Z2 (⟨⟨r5.1.Track.ID,r5.1.Track.State,r5.1.Track.Time,⟨r7,r8⟩,⟨r12,r13⟩,s.Height,r17,w64 (r9+2),s.Code,w64 (r5.1.Track.Hits+1),0⟩,w64 (r15+2),s⟩:Za)) (fun r18=>.i r18) (fun w _=>XG (⟨⟨r5.1.Track.ID,r5.1.Track.State,r5.1.Track.Time,⟨r7,r8⟩,⟨r12,r13⟩,s.Height,r17,w64 (r9+2),s.Code,w64 (r5.1.Track.Hits+1),0⟩,w64 (r15+2),s⟩:Za) w) {} (fun r18 hr18=>TL.r 3 [] [(229,.b (r18 != 0))] {} (TL.next rfl (TC.cond (r18 != 0) rfl Kr (fun h9=>?_) (fun h9=>?_)))))))))))))))))))
          ·exact TC.sr (TL.r 1 [3] [(230,Za.v (⟨⟨0,0,0,⟨0,0⟩,⟨0,0⟩,0,0,0,0,0,0⟩,0,⟨0,⟨0,0⟩,0,0,0⟩⟩:Za))] {} (TL.s 4 (Bk b3 (Za.c Za.zero) 44) (fun _=>{}) (TL.r 3 [] [(11,.i 8)] {} (TL.next rfl (TC.ret (TE.rt (TE.ret [4] (.tuple #[Za.v (⟨⟨0,0,0,⟨0,0⟩,⟨0,0⟩,0,0,0,0,0,0⟩,0,⟨0,⟨0,0⟩,0,0,0⟩⟩:Za),.i 8]) {} (by unfold ZL;refine eS (a:=((⟨⟨0,0,0,⟨0,0⟩,⟨0,0⟩,0,0,0,0,0,0⟩,0,⟨0,⟨0,0⟩,0,0,0⟩⟩:Za),8)) (fun (z:Za×Int)=>(.tuple #[Za.v z.1,.i z.2]:Value)) ?_;subst hr1 hr2 hr3 hr4 hr5 hr6 hr7 hr8 hr9 hr10 hr11 hr12 hr13 hr14 hr15 hr16 hr17 hr18;exact Zb h1 (Zb h2 (Zb h3 (Zb h4 (Zb h5 (Zb h6 (Zb h7 (Zi h8 (Zi h9 (rfl)))))))))))))))))
          ·exact TC.snr (TL.r 1 [1] [(231,Za.v (⟨⟨r5.1.Track.ID,r5.1.Track.State,r5.1.Track.Time,⟨r7,r8⟩,⟨r12,r13⟩,s.Height,r17,w64 (r9+2),s.Code,w64 (r5.1.Track.Hits+1),0⟩,w64 (r15+2),s⟩:Za))] {} (TL.s 4 (Bk b3 (Za.c (⟨⟨r5.1.Track.ID,r5.1.Track.State,r5.1.Track.Time,⟨r7,r8⟩,⟨r12,r13⟩,s.Height,r17,w64 (r9+2),s.Code,w64 (r5.1.Track.Hits+1),0⟩,w64 (r15+2),s⟩:Za)) 44) (fun _=>{}) (TL.r 3 [] [(11,.i 0)] {} (TL.next rfl (TC.ret (TE.ret [4] (.tuple #[Za.v (⟨⟨r5.1.Track.ID,r5.1.Track.State,r5.1.Track.Time,⟨r7,r8⟩,⟨r12,r13⟩,s.Height,r17,w64 (r9+2),s.Code,w64 (r5.1.Track.Hits+1),0⟩,w64 (r15+2),s⟩:Za),.i 0]) {} (by unfold ZL;refine eS (a:=((⟨⟨r5.1.Track.ID,r5.1.Track.State,r5.1.Track.Time,⟨r7,r8⟩,⟨r12,r13⟩,s.Height,r17,w64 (r9+2),s.Code,w64 (r5.1.Track.Hits+1),0⟩,w64 (r15+2),s⟩:Za),0)) (fun (z:Za×Int)=>(.tuple #[Za.v z.1,.i z.2]:Value)) ?_;subst hr1 hr2 hr3 hr4 hr5 hr6 hr7 hr8 hr9 hr10 hr11 hr12 hr13 hr14 hr15 hr16 hr17 hr18;exact Zb h1 (Zb h2 (Zb h3 (Zb h4 (Zb h5 (Zb h6 (Zb h7 (Zi h8 (Zb h9 (rfl))))))))))))))))
         ·refine TC.snr (TL.r 7 [1] [(219,.i (w64 (r5.1.Track.Hits+1))),(221,.pt b6 11)] {} (TL.s 1 (Bk b6 (Za.c (⟨⟨r5.1.Track.ID,r5.1.Track.State,r5.1.Track.Time,⟨r7,r8⟩,⟨r12,r13⟩,s.Height,r17,w64 (r9+2),r5.1.Track.Code,w64 (r5.1.Track.Hits+1),r5.1.Track.Misses⟩,w64 (r15+2),r5.1.Last⟩:Za)) 44) (fun _=>{}) (TL.nr (TL.r 3 [] [(224,.pt b6 12)] {} (TL.s 1 (Bk b6 (Za.c (⟨⟨r5.1.Track.ID,r5.1.Track.State,r5.1.Track.Time,⟨r7,r8⟩,⟨r12,r13⟩,s.Height,r17,w64 (r9+2),r5.1.Track.Code,w64 (r5.1.Track.Hits+1),0⟩,w64 (r15+2),r5.1.Last⟩:Za)) 44) (fun _=>{}) (TL.nr (TL.r 2 [5] [(225,Zf.v s),(226,.pt b6 14)] {} (TL.s 1 (Bk b6 (Za.c (⟨⟨r5.1.Track.ID,r5.1.Track.State,r5.1.Track.Time,⟨r7,r8⟩,⟨r12,r13⟩,s.Height,r17,w64 (r9+2),r5.1.Track.Code,w64 (r5.1.Track.Hits+1),0⟩,w64 (r15+2),s⟩:Za)) 44) (fun _=>{}) (TL.ns (TC.sr (TL.r 1 [1] [(227,Za.v (⟨⟨r5.1.Track.ID,r5.1.Track.State,r5.1.Track.Time,⟨r7,r8⟩,⟨r12,r13⟩,s.Height,r17,w64 (r9+2),r5.1.Track.Code,w64 (r5.1.Track.Hits+1),0⟩,w64 (r15+2),s⟩:Za))] {} (TL.c 228 (Z2 (⟨⟨r5.1.Track.ID,r5.1.Track.State,r5.1.Track.Time,⟨r7,r8⟩,⟨r12,r13⟩,s.Height,r17,w64 (r9+2),r5.1.Track.Code,w64 (r5.1.Track.Hits+1),0⟩,w64 (r15+2),s⟩:Za)) (fun r19=>.i r19) (fun w _=>XG (⟨⟨r5.1.Track.ID,r5.1.Track.State,r5.1.Track.Time,⟨r7,r8⟩,⟨r12,r13⟩,s.Height,r17,w64 (r9+2),r5.1.Track.Code,w64 (r5.1.Track.Hits+1),0⟩,w64 (r15+2),s⟩:Za) w) {} (fun r19 hr19=>TL.r 3 [] [(229,.b (r19 != 0))] {} (TL.next rfl (TC.cond (r19 != 0) rfl Kr (fun h10=>?_) (fun h10=>?_))))))))))))))))
          ·exact TC.sr (TL.r 1 [3] [(230,Za.v (⟨⟨0,0,0,⟨0,0⟩,⟨0,0⟩,0,0,0,0,0,0⟩,0,⟨0,⟨0,0⟩,0,0,0⟩⟩:Za))] {} (TL.s 4 (Bk b3 (Za.c Za.zero) 44) (fun _=>{}) (TL.r 3 [] [(11,.i 8)] {} (TL.next rfl (TC.ret (TE.rt (TE.ret [4] (.tuple #[Za.v (⟨⟨0,0,0,⟨0,0⟩,⟨0,0⟩,0,0,0,0,0,0⟩,0,⟨0,⟨0,0⟩,0,0,0⟩⟩:Za),.i 8]) {} (by unfold ZL;refine eS (a:=((⟨⟨0,0,0,⟨0,0⟩,⟨0,0⟩,0,0,0,0,0,0⟩,0,⟨0,⟨0,0⟩,0,0,0⟩⟩:Za),8)) (fun (z:Za×Int)=>(.tuple #[Za.v z.1,.i z.2]:Value)) ?_;subst hr1 hr2 hr3 hr4 hr5 hr6 hr7 hr8 hr9 hr10 hr11 hr12 hr13 hr14 hr15 hr16 hr17 hr19;exact Zb h1 (Zb h2 (Zb h3 (Zb h4 (Zb h5 (Zb h6 (Zb h7 (Zb h8 (Zi h10 (rfl)))))))))))))))))
          ·exact TC.snr (TL.r 1 [1] [(231,Za.v (⟨⟨r5.1.Track.ID,r5.1.Track.State,r5.1.Track.Time,⟨r7,r8⟩,⟨r12,r13⟩,s.Height,r17,w64 (r9+2),r5.1.Track.Code,w64 (r5.1.Track.Hits+1),0⟩,w64 (r15+2),s⟩:Za))] {} (TL.s 4 (Bk b3 (Za.c (⟨⟨r5.1.Track.ID,r5.1.Track.State,r5.1.Track.Time,⟨r7,r8⟩,⟨r12,r13⟩,s.Height,r17,w64 (r9+2),r5.1.Track.Code,w64 (r5.1.Track.Hits+1),0⟩,w64 (r15+2),s⟩:Za)) 44) (fun _=>{}) (TL.r 3 [] [(11,.i 0)] {} (TL.next rfl (TC.ret (TE.ret [4] (.tuple #[Za.v (⟨⟨r5.1.Track.ID,r5.1.Track.State,r5.1.Track.Time,⟨r7,r8⟩,⟨r12,r13⟩,s.Height,r17,w64 (r9+2),r5.1.Track.Code,w64 (r5.1.Track.Hits+1),0⟩,w64 (r15+2),s⟩:Za),.i 0]) {} (by unfold ZL;refine eS (a:=((⟨⟨r5.1.Track.ID,r5.1.Track.State,r5.1.Track.Time,⟨r7,r8⟩,⟨r12,r13⟩,s.Height,r17,w64 (r9+2),r5.1.Track.Code,w64 (r5.1.Track.Hits+1),0⟩,w64 (r15+2),s⟩:Za),0)) (fun (z:Za×Int)=>(.tuple #[Za.v z.1,.i z.2]:Value)) ?_;subst hr1 hr2 hr3 hr4 hr5 hr6 hr7 hr8 hr9 hr10 hr11 hr12 hr13 hr14 hr15 hr16 hr17 hr19;exact Zb h1 (Zb h2 (Zb h3 (Zb h4 (Zb h5 (Zb h6 (Zb h7 (Zb h8 (Zb h10 (rfl))))))))))))))))
end Go.Sky
end
section
namespace Go.Sky
open Go Go.Eng
theorem Jl {a b:Int} (hb:0<b) (ha:-9223372036854775807≤a∧a≤9223372036854775807):Xr a b=(a/b,0):=by
 unfold Xr
 have e0:(b==0)=false:=by simp;omega
 have e1:(a==(-9223372036854775808))=false:=by simp;omega
 have e2:decide (b<0)=false:=by simp;omega
 simp only[e0,e1,e2,Bool.false_and,cond_false]
 by_cases h:0≤a
 ·have e3:decide (a<0)=false:=by simp;omega
  have hw:w64 (a/b)=a/b:=Zn (by have:=Gj h hb;omega)
  simp[e3,VZ b h,hw]
 ·have e3:decide (a<0)=true:=by simp;omega
  have hq:=Gj (a:=-a) (b:=b) (by omega) hb
  have hm:a=b*(a/b)+a%b:=(Int.mul_ediv_add_emod a b).symm
  have hn:-a=b*(-a/b) + -a%b:=(Int.mul_ediv_add_emod (-a) b).symm
  have r1:=Int.emod_nonneg a (show b≠0 by omega)
  have r2:=Int.emod_lt_of_pos a hb
  have r3:=Int.emod_nonneg (-a) (show b≠0 by omega)
  have r4:=Int.emod_lt_of_pos (-a) hb
  rw[e3,C5 b (by omega),C6 b (by omega),Zn (x:=-(-a/b)) (by omega)]
  by_cases hz:-a%b=0
  ·have:a/b=-(-a/b):=by
    have h1:a=b*(-(-a/b)):=by rw[Int.mul_neg];omega
    have h2:a/b=-(-a/b):=by
     conv=>lhs;rw[h1]
     exact Int.mul_ediv_cancel_left _ (by omega)
    exact h2
   have e4:((-(-a%b)) != 0)=false:=by rw[hz];rfl
   rw[e4]
   simp only[Bool.false_and,cond_false,this]
  ·have e4:((-(-a%b)) != 0)=true:=by simp;omega
   rw[e4]
   have e5:(true&&!(true==false))=true:=rfl
   rw[e5,cond_true]
   have:a/b=-(-a/b)-1:=by
    rw[Int.ediv_eq_iff_of_pos hb]
    rw[Int.mul_comm]
    constructor
    ·rw[Int.mul_sub,Int.mul_neg];omega
    ·rw[Int.mul_sub,Int.mul_neg];omega
   rw[Zn (by omega),this]
theorem KI {a b:Int} (hb:0<b) (ha:-9223372036854775807≤a∧a≤9223372036854775806):X8 a b=(-(-a/b),0):=by
 unfold X8
 simp only[Jl hb (show -9223372036854775807≤a∧a≤9223372036854775807 by omega),beq_self_eq_true,cond_true]
 have hm:a=b*(a/b)+a%b:=(Int.mul_ediv_add_emod a b).symm
 have r1:=Int.emod_nonneg a (show b≠0 by omega)
 have r2:=Int.emod_lt_of_pos a hb
 have hz:a.tmod b=0↔a%b=0:=by
  rw[← Int.dvd_iff_tmod_eq_zero,← Int.dvd_iff_emod_eq_zero]
 have hle:a/b≤9223372036854775806 ∧ -9223372036854775807≤a/b:=by
  by_cases h:0≤a
  ·have:=Gj h hb;omega
  ·have h1:a≤a/b:=by
    rw[Int.le_ediv_iff_mul_le hb]
    have:a*b≤a*1:=Int.mul_le_mul_of_nonpos_left (by omega) (by omega)
    omega
   have h2:a/b<0:=Int.ediv_neg_of_neg_of_pos (by omega) hb
   omega
 by_cases h:a%b=0
 ·have e:(a.tmod b != 0)=false:=by simpa using hz.2 h
  rw[e,cond_false]
  congr 1
  have h1:-a=b*(-(a/b)):=by rw[Int.mul_neg];omega
  have h2:-a/b=-(a/b):=by
   conv=>lhs;rw[h1]
   exact Int.mul_ediv_cancel_left _ (by omega)
  omega
 ·have e:(a.tmod b != 0)=true:=by simpa using fun hh=>h (hz.1 hh)
  rw[e,cond_true,Zn (by omega)]
  congr 1
  have h2:-a/b=-(a/b)-1:=by
   rw[Int.ediv_eq_iff_of_pos hb,Int.mul_comm]
   constructor
   ·rw[Int.mul_sub,Int.mul_neg];omega
   ·rw[Int.mul_sub,Int.mul_neg];omega
  omega
end Go.Sky
namespace Go.Sky
open Go Go.Eng Go.Glue
def P.In (p:P):Prop:=-1000000≤p.X∧p.X≤1000000 ∧ -1000000≤p.Y∧p.Y≤1000000
def Zf.In (s:Zf):Prop:=(0≤s.Time∧s.Time≤200000)∧s.At.In∧(0≤s.Height∧s.Height≤60000)∧(-1≤s.Code∧s.Code≤4095)∧(0≤s.Error∧s.Error≤1000000)
def Track.In (t:Track):Prop:=(0≤t.Time∧t.Time≤200000)∧t.At.In∧(0≤t.Height∧t.Height≤60000)∧(-1≤t.Code∧t.Code≤4095)∧(0≤t.Radius∧t.Radius≤4000000)
theorem LV {n a b:Int}:ZI n a b=decide (¬ (a≤n∧n≤b)):=by
 unfold ZI;rw[Bool.eq_iff_iff];simp
theorem B1 (p:P):Yh p=0∧p.In∨Yh p=4∧¬ p.In:=by
 unfold Yh P.In
 rw[YQ]
 split
 ·rename_i h;simp at h;exact .inr ⟨rfl,by omega⟩
 ·rename_i h;simp at h;exact .inl ⟨rfl,by omega⟩
theorem NI {p:P}:Yh p=0↔p.In:=by
 rcases B1 p with ⟨h1,h2⟩|⟨h1,h2⟩
 ·exact⟨fun _=>h2,fun _=>h1⟩
 ·exact⟨fun h=>by omega,fun h=>absurd h h2⟩
theorem K8 (s:Zf):Zz s=0∧s.In∨Zz s=4∧¬ s.In:=by
 unfold Zz Zf.In
 simp only[YQ,LV,decide_eq_true_eq]
 split
 ·exact .inr ⟨rfl,fun h=>by omega⟩
 ·rcases B1 s.At with ⟨h1,h2⟩|⟨h1,h2⟩
  ·rw[h1,if_neg (by simp)]
   split
   ·exact .inr ⟨rfl,fun h=>by omega⟩
   ·split
    ·exact .inr ⟨rfl,fun h=>by omega⟩
    ·split
     ·exact .inr ⟨rfl,fun h=>by omega⟩
     ·exact .inl ⟨rfl,by omega,h2,by omega,by omega,by omega⟩
  ·rw[h1,if_pos (by simp)]
   exact .inr ⟨rfl,fun h=>h2 h.2.1⟩
theorem Qq {s:Zf}:Zz s=0↔s.In:=by
 rcases K8 s with ⟨h1,h2⟩|⟨h1,h2⟩
 ·exact⟨fun _=>h2,fun _=>h1⟩
 ·exact⟨fun h=>by omega,fun h=>absurd h h2⟩
theorem Vo (t:Track):YJ t=0∧t.In∨YJ t=4∧¬ t.In:=by
 unfold YJ Track.In
 simp only[YQ]
 rcases K8 ⟨t.Time,t.At,t.Height,t.Code,0⟩ with ⟨h1,h2⟩|⟨h1,h2⟩
 ·rw[h1]
  obtain⟨g1,g2,g3,g4,_⟩:=h2
  split
  ·rename_i h;simp at h;exact .inr ⟨rfl,fun hh=>by omega⟩
  ·rename_i h;simp at h;exact .inl ⟨rfl,g1,g2,g3,g4,by omega⟩
 ·rw[h1,if_pos (by simp)]
  exact .inr ⟨rfl,fun hh=>h2 ⟨hh.1,hh.2.1,hh.2.2.1,hh.2.2.2.1,show (0:Int)≤0∧(0:Int)≤1000000 by decide⟩⟩
theorem Ub {x n:Int} (h:-n≤x∧x≤n):0≤x*x∧x*x≤n*n:=by
 constructor
 ·rcases Int.le_total 0 x with h0|h0
  ·exact Int.mul_nonneg h0 h0
  ·rw[← Int.neg_mul_neg];exact Int.mul_nonneg (by omega) (by omega)
 ·by_cases hx:0≤x
  ·exact Int.mul_le_mul h.2 h.2 hx (by omega)
  ·have:(-x)*(-x)≤n*n:=Int.mul_le_mul (by omega) (by omega) (by omega) (by omega)
   rwa [Int.neg_mul_neg] at this
theorem GM {p q:P} (hp:p.In) (hq:q.In):ZV p q=(p.X-q.X)*(p.X-q.X)+(p.Y-q.Y)*(p.Y-q.Y)∧0≤ZV p q∧ZV p q≤8000000000000:=by
 obtain⟨p1,p2,p3,p4⟩:=hp
 obtain⟨q1,q2,q3,q4⟩:=hq
 have b1:=Ub (x:=p.X-q.X) (n:=2000000) (by omega)
 have b2:=Ub (x:=p.Y-q.Y) (n:=2000000) (by omega)
 have e:ZV p q=(p.X-q.X)*(p.X-q.X)+(p.Y-q.Y)*(p.Y-q.Y):=by
  show w64 (w64 (w64 (p.X-q.X)*w64 (p.X-q.X))+w64 (w64 (p.Y-q.Y)*w64 (p.Y-q.Y)))=_
  rw[Zn (x:=p.X-q.X) (by omega),Zn (x:=p.Y-q.Y) (by omega),Zn (x:=(p.X-q.X)*(p.X-q.X)) (by omega),Zn (x:=(p.Y-q.Y)*(p.Y-q.Y)) (by omega),Zn (by omega)]
 exact⟨e,by omega,by omega⟩
theorem C9 {a b c d R S:Int} (hR:0≤R) (hS:0≤S) (h1:a*a+b*b≤R*R) (h2:c*c+d*d≤S*S):(a+c)*(a+c)+(b+d)*(b+d)≤(R+S)*(R+S):=by
 have key:a*c+b*d≤R*S:=by
  rcases Int.lt_or_le (R*S) (a*c+b*d) with h|h
  ·exfalso
   have hRS:0≤R*S:=Int.mul_nonneg hR hS
   have e1:(a*c+b*d)*(a*c+b*d)+(a*d-b*c)*(a*d-b*c)=(a*a+b*b)*(c*c+d*d):=by grind
   have e2:0≤(a*d-b*c)*(a*d-b*c):=by
    rcases Int.le_total 0 (a*d-b*c) with g|g
    ·exact Int.mul_nonneg g g
    ·rw[← Int.neg_mul_neg];exact Int.mul_nonneg (by omega) (by omega)
   have n1:∀ x:Int,0≤x*x:=fun x=>by
    rcases Int.le_total 0 x with g|g
    ·exact Int.mul_nonneg g g
    ·rw[← Int.neg_mul_neg];exact Int.mul_nonneg (by omega) (by omega)
   have e3:(a*a+b*b)*(c*c+d*d)≤(R*R)*(S*S):=Int.mul_le_mul h1 h2 (by have:=n1 c;have:=n1 d;omega) (n1 R)
   have e4:(R*R)*(S*S)=(R*S)*(R*S):=by grind
   have e5:(R*S+1)*(R*S+1)≤(a*c+b*d)*(a*c+b*d):=Int.mul_le_mul (by omega) (by omega) (by omega) (by omega)
   have e6:(R*S+1)*(R*S+1)=(R*S)*(R*S)+2*(R*S)+1:=by grind
   omega
  ·exact h
 have e7:(a+c)*(a+c)+(b+d)*(b+d)=(a*a+b*b)+(c*c+d*d)+2*(a*c+b*d):=by grind
 have e8:(R+S)*(R+S)=R*R+S*S+2*(R*S):=by grind
 omega
theorem within_iff {p q:P} {d:Int} (hp:p.In) (hq:q.In) (hd:-9000000≤d∧d≤9000000):ZQ p q d=decide ((0≤d∧d≤8000000)∧(p.X-q.X)*(p.X-q.X)+(p.Y-q.Y)*(p.Y-q.Y)≤d*d):=by
 have hs:=Ub hd
 unfold ZQ
 simp only[(GM hp hq).1,Zn (x:=d*d) (by omega)]
 by_cases h:0≤d∧d≤8000000
 ·have e:((decide (d≥0))&&(decide (d≤8000000)))=true:=by simp;omega
  rw[e,cond_true,Bool.eq_iff_iff];simp only[decide_eq_true_eq]
  exact⟨fun g=>⟨h,g⟩,fun g=>g.2⟩
 ·have e:((decide (d≥0))&&(decide (d≤8000000)))=false:=by simp;omega
  rw[e,cond_false]
  exact(decide_eq_false (fun g=>h g.1)).symm
end Go.Sky
namespace Go.Sky
open Go Go.Eng Go.Glue
def Za.In (f:Za):Prop :=
 f.Track.In∧(-12800≤f.Track.Speed.X∧f.Track.Speed.X≤12800)∧(-12800≤f.Track.Speed.Y∧f.Track.Speed.Y≤12800)∧(-3200≤f.Track.Rate∧f.Track.Rate≤3200)∧(0≤f.Slack∧f.Slack≤409600)
  ∧ (0≤f.Track.ID∧0≤f.Track.Hits∧0≤f.Track.Misses)∧(0≤f.Track.State∧f.Track.State≤2)∧f.Last.In∧f.Last.Time≤f.Track.Time
theorem JR {n a b:Int}:ZX n a b=decide (¬ (a≤n∧n≤b)):=by
 unfold ZX;rw[Bool.eq_iff_iff];simp
theorem FK (f:Za):Z2 f=0∧f.In∨(Z2 f=1∨Z2 f=4∨Z2 f=12)∧¬ f.In:=by
 unfold Z2 Za.In
 simp only[YQ,JR,decide_eq_true_eq]
 rcases Vo f.Track with ⟨h1,h2⟩|⟨h1,h2⟩
 ·rw[h1,if_neg (by simp)]
  split
  ·exact .inr ⟨by simp,fun h=>by omega⟩
  ·split
   ·exact .inr ⟨by simp,fun h=>by omega⟩
   ·split
    ·exact .inr ⟨by simp,fun h=>by omega⟩
    ·split
     ·rename_i h;simp at h;exact .inr ⟨by simp,fun h=>by omega⟩
     ·rename_i h7;simp at h7
      split
      ·exact .inr ⟨by simp,fun h=>by omega⟩
      ·rcases K8 f.Last with ⟨h3,h4⟩|⟨h3,h4⟩
       ·rw[h3,if_neg (by simp)]
        split
        ·exact .inr ⟨by simp,fun h=>by omega⟩
        ·exact .inl ⟨rfl,h2,by omega,by omega,by omega,by omega,by omega,by omega,h4,by omega⟩
       ·rw[h3,if_pos (by simp)]
        exact .inr ⟨by simp,fun h=>h4 h.2.2.2.2.2.2.2.1⟩
 ·rw[h1,if_pos (by simp)]
  exact .inr ⟨by simp,fun h=>h2 h.1⟩
theorem XQ {f:Za}:Z2 f=0↔f.In:=by
 rcases FK f with ⟨h1,h2⟩|⟨h1,h2⟩
 ·exact⟨fun _=>h2,fun _=>h1⟩
 ·exact⟨fun h=>by omega,fun h=>absurd h h2⟩
theorem NJ {f:Za} {t a:Int} (h:(Zp f t a).2=0):(Zp f t a).1.In:=by
 unfold Zp at h ⊢
 simp only[YQ] at h ⊢
 by_cases h1:(Z2 f != 0)=true
 ·rw[if_pos h1] at h;simp at h h1;exact absurd h h1
 ·rw[if_neg h1] at h ⊢
  have hc:f.In:=XQ.1 (by simpa using h1)
  by_cases h2:ZX t 0 200000=true
  ·rw[if_pos h2] at h;cases h
  ·rw[if_neg h2] at h ⊢
   by_cases h3:ZX a 0 20=true
   ·rw[if_pos h3] at h;cases h
   ·rw[if_neg h3] at h ⊢
    by_cases h4:ZX (w64 (t-f.Track.Time)) 0 600=true
    ·rw[if_pos h4] at h;cases h
    ·rw[if_neg h4] at h ⊢
     by_cases h5:(w64 (t-f.Track.Time)==0)=true
     ·rw[if_pos h5];exact hc
     ·rw[if_neg h5] at h ⊢
      generalize hg:(⟨⟨f.Track.ID,f.Track.State,t,Qu f.Track.At ⟨ZS (w64 (f.Track.Speed.X*w64 (t-f.Track.Time))) 16,ZS (w64 (f.Track.Speed.Y*w64 (t-f.Track.Time))) 16⟩,f.Track.Speed,Xs (w64 (f.Track.Height+ZS (w64 (f.Track.Rate*w64 (t-f.Track.Time))) 16)) 0 60000,f.Track.Rate,w64 (f.Track.Radius+(Qx f.Slack a (w64 (t-f.Track.Time))).1),f.Track.Code,f.Track.Hits,f.Track.Misses⟩,w64 (f.Slack+w64 (w64 (16*a)*w64 (t-f.Track.Time))),f.Last⟩:Za)=g at h ⊢
      by_cases h6:(Z2 g != 0)=true
      ·rw[if_pos h6] at h;cases h
      ·rw[if_neg h6];exact XQ.1 (by simpa using h6)
end Go.Sky
end
section
namespace Go.Sky
open Go Go.Eng Go.Glue
def grow (slack acc d:Int):Int:=-(-(slack*d)/16) + -(-(acc*d*d)/2)+2
def Ys (f:Za) (t acc:Int):Za :=
 ⟨⟨f.Track.ID,f.Track.State,t,⟨f.Track.At.X+f.Track.Speed.X*(t-f.Track.Time)/16,f.Track.At.Y+f.Track.Speed.Y*(t-f.Track.Time)/16⟩,f.Track.Speed,
  Xs (f.Track.Height+f.Track.Rate*(t-f.Track.Time)/16) 0 60000,f.Track.Rate,f.Track.Radius+grow f.Slack acc (t-f.Track.Time),f.Track.Code,f.Track.Hits,f.Track.Misses⟩,
  f.Slack+16*acc*(t-f.Track.Time),f.Last⟩
theorem Lp {a b A B:Int} (ha:-A≤a∧a≤A) (hb:0≤b∧b≤B):-(A*B)≤a*b∧a*b≤A*B:=by
 have hA:0≤A:=by omega
 have h1:a*b≤A*b:=Int.mul_le_mul_of_nonneg_right ha.2 hb.1
 have h2:-A*b≤a*b:=Int.mul_le_mul_of_nonneg_right ha.1 hb.1
 have h3:A*b≤A*B:=Int.mul_le_mul_of_nonneg_left hb.2 hA
 rw[Int.neg_mul] at h2
 omega
theorem J7 {a b A B:Int} (ha:0≤a∧a≤A) (hb:0≤b∧b≤B):0≤a*b∧a*b≤A*B :=
 ⟨Int.mul_nonneg ha.1 hb.1,Int.mul_le_mul ha.2 hb.2 hb.1 (by omega)⟩
theorem Dh {slack acc d:Int} (hs:0≤slack∧slack≤409600) (ha:0≤acc∧acc≤20) (hd:0≤d∧d≤600):2≤grow slack acc d∧grow slack acc d≤20000000:=by
 have h1:=J7 hs hd
 have h2:=J7 (J7 ha hd) hd
 unfold grow
 omega
theorem CB {slack acc d:Int} (hs:0≤slack∧slack≤409600) (ha:0≤acc∧acc≤20) (hd:1≤d∧d≤600):Qx slack acc d=(grow slack acc d,0):=by
 have hd0:0≤d∧d≤600:=by omega
 have h1:=J7 hs hd0
 have h2:=J7 ha hd0
 have h3:=J7 h2 hd0
 have hg:=Dh hs ha hd0
 unfold Qx
 have e1:((((decide (slack<0))||(decide (slack>409600)))||(decide (acc<0)))||(decide (acc>20)))=false:=by simp;omega
 have e2:((decide (d<0))||(decide (d>600)))=false:=by simp;omega
 have e3:(d==0)=false:=by simp;omega
 simp only[e1,e2,e3,cond_false]
 rw[Zn (x:=slack*d) (by omega),Zn (x:=acc*d) (by omega),Zn (x:=acc*d*d) (by omega),KI (by decide) (by omega),KI (by decide) (by omega)]
 unfold grow at hg ⊢
 simp only
 rw[Zn (x:=-(-(slack*d)/16) + -(-(acc*d*d)/2)) (by omega),Zn (by omega)]
theorem Di {f:Za} {a:Int} (hf:f.In) (ha:0≤a∧a≤20):Zp f f.Track.Time a=(f,0):=by
 have ht:=hf.1.1
 unfold Zp
 simp only[YQ,JR,decide_eq_true_eq]
 rw[if_neg (by simp[XQ.2 hf]),if_neg (fun hh=>hh ht),if_neg (fun hh=>hh ha),Int.sub_self,show w64 0=0 by decide,if_neg (by decide),if_pos (by decide)]
theorem NK {f:Za} {t a:Int} (hf:f.In) (ht:0≤t∧t≤200000) (ha:0≤a∧a≤20) (hd:1≤t-f.Track.Time∧t-f.Track.Time≤600) :
  ((Zp f t a).2=0∧(Zp f t a).1=Ys f t a∧(Ys f t a).In)∨((Zp f t a).2=8∧¬ (Ys f t a).In):=by
 have hd0:0≤t-f.Track.Time∧t-f.Track.Time≤600:=by omega
 have htt:=hf.1.1
 have hx:=hf.1.2.1
 have s1:=Lp hf.2.1 hd0
 have s2:=Lp hf.2.2.1 hd0
 have s3:=Lp hf.2.2.2.1 hd0
 have s4:=J7 ha hd0
 have hh:=hf.1.2.2.1
 have hr:=hf.1.2.2.2.2
 have hg:=Dh hf.2.2.2.2.1 ha hd0
 have hsl:=hf.2.2.2.2.1
 unfold P.In at hx
 unfold Zp
 simp only[YQ,JR,decide_eq_true_eq]
 rw[if_neg (by simp[XQ.2 hf]),if_neg (fun hh=>hh ht),if_neg (fun hh=>hh ha),Zn (x:=t-f.Track.Time) (by omega),if_neg (fun hh=>hh hd0),if_neg (by simp;omega)]
 have k1:ZS (w64 (f.Track.Speed.X*(t-f.Track.Time))) 16=f.Track.Speed.X*(t-f.Track.Time)/16:=by
  unfold ZS;rw[Zn (by omega),Jl (by decide) (by omega)]
 have k2:ZS (w64 (f.Track.Speed.Y*(t-f.Track.Time))) 16=f.Track.Speed.Y*(t-f.Track.Time)/16:=by
  unfold ZS;rw[Zn (by omega),Jl (by decide) (by omega)]
 have k3:ZS (w64 (f.Track.Rate*(t-f.Track.Time))) 16=f.Track.Rate*(t-f.Track.Time)/16:=by
  unfold ZS;rw[Zn (by omega),Jl (by decide) (by omega)]
 have k4:Qu f.Track.At ⟨f.Track.Speed.X*(t-f.Track.Time)/16,f.Track.Speed.Y*(t-f.Track.Time)/16⟩=⟨f.Track.At.X+f.Track.Speed.X*(t-f.Track.Time)/16,f.Track.At.Y+f.Track.Speed.Y*(t-f.Track.Time)/16⟩:=by
  unfold Qu
  simp only
  rw[Zn (x:=f.Track.At.X+_) (by omega),Zn (x:=f.Track.At.Y+_) (by omega)]
 have k5:16*a*(t-f.Track.Time)=16*(a*(t-f.Track.Time)):=Int.mul_assoc ..
 rw[k1,k2,k3,k4,CB hf.2.2.2.2.1 ha hd]
 simp only
 rw[Zn (x:=f.Track.Height+_) (by omega),Zn (x:=f.Track.Radius+_) (by omega),Zn (x:=16*a) (by omega),Zn (x:=16*a*_) (by omega),Zn (x:=f.Slack+_) (by omega)]
 have goal:∀ r:Za×Int,r=(if (Z2 (Ys f t a) != 0)=true then (Za.zero,8) else (Ys f t a,0))→(r.2=0∧r.1=Ys f t a∧(Ys f t a).In)∨(r.2=8∧¬ (Ys f t a).In):=by
  rintro r rfl
  rcases FK (Ys f t a) with ⟨c1,c2⟩|⟨c1,c2⟩
  ·rw[if_neg (by simp[c1])]
   exact .inl ⟨rfl,rfl,c2⟩
  ·rw[if_pos (by simp;omega)]
   exact .inr ⟨rfl,c2⟩
 exact goal _ rfl
def Qe (x y R:Int):Prop:=0≤R∧x*x+y*y≤R*R
theorem Qe.add {x y R a b S:Int} (h:Qe x y R) (g:Qe a b S):Qe (x+a) (y+b) (R+S):=⟨by have:=h.1;have:=g.1;omega,C9 h.1 g.1 h.2 g.2⟩
theorem Qe.mono {x y R S:Int} (h:Qe x y R) (hs:R≤S):Qe x y S:=⟨by have:=h.1;omega,by have:=Int.mul_le_mul hs hs h.1 (by have:=h.1;omega:(0:Int)≤S);have:=h.2;omega⟩
theorem Qe.scale {x y R k:Int} (h:Qe x y R) (hk:0≤k):Qe (k*x) (k*y) (k*R):=by
 refine⟨Int.mul_nonneg hk h.1,?_⟩
 have e1:k*x*(k*x)+k*y*(k*y)=k*k*(x*x+y*y):=by grind
 have e2:k*R*(k*R)=k*k*(R*R):=by grind
 rw[e1,e2]
 exact Int.mul_le_mul_of_nonneg_left h.2 (Int.mul_nonneg hk hk)
theorem Qe.unscale {x y R k:Int} (hk:0<k) (h:Qe (k*x) (k*y) (k*R)):Qe x y R:=by
 have h0:0≤R:=by
  rcases Int.lt_or_le R 0 with g|g
  ·have:=Int.mul_neg_of_pos_of_neg hk g
   have:=h.1
   omega
  ·exact g
 refine⟨h0,?_⟩
 have e1:k*x*(k*x)+k*y*(k*y)=k*k*(x*x+y*y):=by grind
 have e2:k*R*(k*R)=k*k*(R*R):=by grind
 have h2:=h.2
 rw[e1,e2] at h2
 exact Int.le_of_mul_le_mul_left h2 (Int.mul_pos hk hk)
theorem Qe.box {x y b R:Int} (hx:-b≤x∧x≤b) (hy:-b≤y∧y≤b) (hR:0≤R) (h:2*(b*b)≤R*R):Qe x y R:=⟨hR,by have:=Ub hx;have:=Ub hy;omega⟩
theorem Qe.neg {x y R:Int} (h:Qe x y R):Qe (-x) (-y) R:=⟨h.1,by rw[Int.neg_mul_neg,Int.neg_mul_neg];exact h.2⟩
theorem Qe.abs {x y R:Int} (h:Qe x y R):(-R≤x∧x≤R)∧(-R≤y∧y≤R):=by
 have nn:∀ z:Int,0≤z*z:=fun z=>by
  rcases Int.le_total 0 z with g|g
  ·exact Int.mul_nonneg g g
  ·rw[← Int.neg_mul_neg];exact Int.mul_nonneg (by omega) (by omega)
 have key:∀ z:Int,z*z≤R*R → -R≤z∧z≤R:=by
  intro z hz
  have h0:=h.1
  constructor
  ·rcases Int.lt_or_le z (-R) with g|g
   ·have:(R+1)*(R+1)≤(-z)*(-z):=Int.mul_le_mul (by omega) (by omega) (by omega) (by omega)
    rw[Int.neg_mul_neg] at this
    have e:(R+1)*(R+1)=R*R+2*R+1:=by grind
    omega
   ·exact g
  ·rcases Int.lt_or_le R z with g|g
   ·have:(R+1)*(R+1)≤z*z:=Int.mul_le_mul (by omega) (by omega) (by omega) (by omega)
    have e:(R+1)*(R+1)=R*R+2*R+1:=by grind
    omega
   ·exact g
 have n1:=nn x
 have n2:=nn y
 have h2:=h.2
 exact⟨key x (by omega),key y (by omega)⟩
structure Run (x v:Nat→P) (accel:Int) (K:Nat):Prop where
 acc:0≤accel∧accel≤1000
 vel:∀ k,k≤K→(-200≤(v k).X∧(v k).X≤200)∧(-200≤(v k).Y∧(v k).Y≤200)
 pos:∀ k,k≤K→(-112000≤(x k).X∧(x k).X≤112000)∧(-112000≤(x k).Y∧(x k).Y≤112000)
 step:∀ k,k<K→(x (k+1)).X=(x k).X+(v k).X∧(x (k+1)).Y=(x k).Y+(v k).Y
 turn:∀ k,k<K→Qe ((v (k+1)).X-(v k).X) ((v (k+1)).Y-(v k).Y) accel
theorem Run.veld {x v:Nat→P} {accel:Int} {K:Nat} (h:Run x v accel K) (t:Nat):∀ d:Nat,t+d≤K→Qe ((v (t+d)).X-(v t).X) ((v (t+d)).Y-(v t).Y) (accel*(d:Int))
 | 0,_=>by
  rw[Nat.add_zero,Int.sub_self,Int.sub_self]
  exact Qe.box (b:=0) (by omega) (by omega) (by simp) (by simp)
 | d+1,hd=>by
  have ih:=Run.veld h t d (by omega)
  have s:=ih.add (h.turn (t+d) (by omega))
  rw[show (v (t+d)).X-(v t).X+((v (t+d+1)).X-(v (t+d)).X)=(v (t+d+1)).X-(v t).X by omega,show (v (t+d)).Y-(v t).Y+((v (t+d+1)).Y-(v (t+d)).Y)=(v (t+d+1)).Y-(v t).Y by omega] at s
  rw[show t+(d+1)=t+d+1 by omega,show accel*((d+1:Nat):Int)=accel*(d:Int)+accel by rw[Int.natCast_succ,Int.mul_add,Int.mul_one]]
  exact s
theorem Run.ahead {x v:Nat→P} {accel:Int} {K:Nat} (h:Run x v accel K) (t:Nat):∀ d:Nat,t+d≤K →
  Qe (2*((x (t+d)).X-(x t).X-(d:Int)*(v t).X)) (2*((x (t+d)).Y-(x t).Y-(d:Int)*(v t).Y)) (accel*(d:Int)*((d:Int)-1))
 | 0,_=>by
  rw[Nat.add_zero]
  refine Qe.box (b:=0) (by simp) (by simp) (by simp) (by simp)
 | d+1,hd=>by
  have ih:=Run.ahead h t d (by omega)
  have s:=ih.add ((Run.veld h t d (by omega)).scale (k:=2) (by omega))
  obtain⟨e1,e2⟩:=h.step (t+d) (by omega)
  rw[show t+(d+1)=t+d+1 by omega,e1,e2]
  have f1:2*((x (t+d)).X-(x t).X-(d:Int)*(v t).X)+2*((v (t+d)).X-(v t).X)=2*((x (t+d)).X+(v (t+d)).X-(x t).X-((d+1:Nat):Int)*(v t).X):=by rw[Int.natCast_succ,Int.add_mul];omega
  have f2:2*((x (t+d)).Y-(x t).Y-(d:Int)*(v t).Y)+2*((v (t+d)).Y-(v t).Y)=2*((x (t+d)).Y+(v (t+d)).Y-(x t).Y-((d+1:Nat):Int)*(v t).Y):=by rw[Int.natCast_succ,Int.add_mul];omega
  have f3:accel*(d:Int)*((d:Int)-1)+2*(accel*(d:Int))=accel*((d+1:Nat):Int)*(((d+1:Nat):Int)-1):=by rw[Int.natCast_succ];grind
  rw[f1,f2,f3] at s
  exact s
theorem Run.behind {x v:Nat→P} {accel:Int} {K:Nat} (h:Run x v accel K) (t:Nat):∀ d:Nat,t+d≤K →
  Qe (2*((x (t+d)).X-(x t).X-(d:Int)*(v (t+d)).X)) (2*((x (t+d)).Y-(x t).Y-(d:Int)*(v (t+d)).Y)) (accel*(d:Int)*((d:Int)+1))
 | 0,_=>by
  rw[Nat.add_zero]
  refine Qe.box (b:=0) (by simp) (by simp) (by simp) (by simp)
 | d+1,hd=>by
  have ih:=Run.behind h t d (by omega)
  have s:=ih.add ((h.turn (t+d) (by omega)).neg.scale (k:=2*((d:Int)+1)) (by omega))
  obtain⟨e1,e2⟩:=h.step (t+d) (by omega)
  rw[show t+(d+1)=t+d+1 by omega,e1,e2]
  have f1:2*((x (t+d)).X-(x t).X-(d:Int)*(v (t+d)).X)+2*((d:Int)+1) * -((v (t+d+1)).X-(v (t+d)).X)=2*((x (t+d)).X+(v (t+d)).X-(x t).X-((d+1:Nat):Int)*(v (t+d+1)).X):=by rw[Int.natCast_succ];grind
  have f2:2*((x (t+d)).Y-(x t).Y-(d:Int)*(v (t+d)).Y)+2*((d:Int)+1) * -((v (t+d+1)).Y-(v (t+d)).Y)=2*((x (t+d)).Y+(v (t+d)).Y-(x t).Y-((d+1:Nat):Int)*(v (t+d+1)).Y):=by rw[Int.natCast_succ];grind
  have f3:accel*(d:Int)*((d:Int)+1)+2*((d:Int)+1)*accel=accel*((d+1:Nat):Int)*(((d+1:Nat):Int)+1):=by rw[Int.natCast_succ];grind
  rw[f1,f2,f3] at s
  exact s
def Knows (f:Za) (p v:P):Prop :=
 Qe (f.Track.At.X-p.X) (f.Track.At.Y-p.Y) f.Track.Radius∧Qe (f.Track.Speed.X-16*v.X) (f.Track.Speed.Y-16*v.Y) f.Slack
theorem Ba {x v:Nat→P} {accel:Int} {K:Nat} (h:Run x v accel K) {f:Za} {t d:Nat} (hk:Knows f (x t) (v t)) (ht:f.Track.Time=(t:Int)) (hd:t+d≤K) (hd1:1≤d) :
  Knows (Ys f ((t+d:Nat):Int) accel) (x (t+d)) (v (t+d)):=by
 have e0:((t+d:Nat):Int)-f.Track.Time=(d:Int):=by omega
 have ha:=h.acc
 obtain⟨k1,k2⟩:=hk
 have vd:=h.veld t d hd
 have xd:=h.ahead t d hd
 constructor
 ·unfold Ys
  simp only[e0]
  obtain⟨rx,hrx⟩:∃ r,r=f.Track.Speed.X*(d:Int)%16:=⟨_,rfl⟩
  obtain⟨ry,hry⟩:∃ r,r=f.Track.Speed.Y*(d:Int)%16:=⟨_,rfl⟩
  have brx:0≤rx∧rx≤15:=by omega
  have bry:0≤ry∧ry≤15:=by omega
  have b1:=k1.scale (k:=16) (by omega)
  have b2:=k2.scale (k:=(d:Int)) (by omega)
  have b3:Qe (-rx) (-ry) 32:=Qe.box (b:=15) (by omega) (by omega) (by omega) (by decide)
  have b4:=xd.neg.scale (k:=8) (by omega)
  have b:=((b1.add b2).add b3).add b4
  have q1:f.Track.Speed.X*(d:Int)=16*(f.Track.Speed.X*(d:Int)/16)+rx:=by omega
  have q2:f.Track.Speed.Y*(d:Int)=16*(f.Track.Speed.Y*(d:Int)/16)+ry:=by omega
  have g1:16*(f.Track.At.X-(x t).X)+(d:Int)*(f.Track.Speed.X-16*(v t).X) + -rx+8 * -(2*((x (t+d)).X-(x t).X-(d:Int)*(v t).X))=16*(f.Track.At.X+f.Track.Speed.X*(d:Int)/16-(x (t+d)).X):=by
   have e:(d:Int)*(f.Track.Speed.X-16*(v t).X)=f.Track.Speed.X*(d:Int)-16*((d:Int)*(v t).X):=by grind
   omega
  have g2:16*(f.Track.At.Y-(x t).Y)+(d:Int)*(f.Track.Speed.Y-16*(v t).Y) + -ry+8 * -(2*((x (t+d)).Y-(x t).Y-(d:Int)*(v t).Y))=16*(f.Track.At.Y+f.Track.Speed.Y*(d:Int)/16-(x (t+d)).Y):=by
   have e:(d:Int)*(f.Track.Speed.Y-16*(v t).Y)=f.Track.Speed.Y*(d:Int)-16*((d:Int)*(v t).Y):=by grind
   omega
  rw[g1,g2] at b
  refine Qe.unscale (k:=16) (by decide) (b.mono ?_)
  unfold grow
  have m1:0≤accel*(d:Int):=Int.mul_nonneg ha.1 (by omega)
  have m2:accel*(d:Int)*((d:Int)-1)=accel*(d:Int)*(d:Int)-accel*(d:Int):=by rw[Int.mul_sub,Int.mul_one]
  have m3:(d:Int)*f.Slack=f.Slack*(d:Int):=Int.mul_comm ..
  omega
 ·unfold Ys
  simp only[e0]
  have b:=k2.add (vd.neg.scale (k:=16) (by omega))
  have g1:f.Track.Speed.X-16*(v t).X+16 * -((v (t+d)).X-(v t).X)=f.Track.Speed.X-16*(v (t+d)).X:=by omega
  have g2:f.Track.Speed.Y-16*(v t).Y+16 * -((v (t+d)).Y-(v t).Y)=f.Track.Speed.Y-16*(v (t+d)).Y:=by omega
  rw[g1,g2,show f.Slack+16*(accel*(d:Int))=f.Slack+16*accel*(d:Int) by rw[Int.mul_assoc]] at b
  exact b
theorem FM {ax ay bx b_y x y g A B:Int} (hA:Qe (ax-x) (ay-y) A) (hB:Qe (bx-x) (b_y-y) B) (hg:0≤g∧g≤256) :
  Qe (ax+(bx-ax)*g/256-x) (ay+(b_y-ay)*g/256-y) (-(-((256-g)*A+g*B)/256)+2):=by
 obtain⟨rx,hrx⟩:∃ r,r=(bx-ax)*g%256:=⟨_,rfl⟩
 obtain⟨ry,hry⟩:∃ r,r=(b_y-ay)*g%256:=⟨_,rfl⟩
 have b3:Qe (-rx) (-ry) 512:=Qe.box (b:=255) (by omega) (by omega) (by omega) (by decide)
 have b:=((hA.scale (k:=256-g) (by omega)).add (hB.scale (k:=g) hg.1)).add b3
 have g1:(256-g)*(ax-x)+g*(bx-x) + -rx=256*(ax+(bx-ax)*g/256-x):=by
  have e:(256-g)*(ax-x)+g*(bx-x)=256*(ax-x)+(bx-ax)*g:=by grind
  omega
 have g2:(256-g)*(ay-y)+g*(b_y-y) + -ry=256*(ay+(b_y-ay)*g/256-y):=by
  have e:(256-g)*(ay-y)+g*(b_y-y)=256*(ay-y)+(b_y-ay)*g:=by grind
  omega
 rw[g1,g2] at b
 exact Qe.unscale (k:=256) (by decide) (b.mono (by omega))
theorem LW {x v:Nat→P} {accel:Int} {K:Nat} (h:Run x v accel K) {t d:Nat} (hd:t+d≤K) (hd1:1≤d) {s l:P} {E L:Int} (hs:Qe (s.X-(x (t+d)).X) (s.Y-(x (t+d)).Y) E) (hl:Qe (l.X-(x t).X) (l.Y-(x t).Y) L) :
  Qe (16*(s.X-l.X)/(d:Int)-16*(v (t+d)).X) (16*(s.Y-l.Y)/(d:Int)-16*(v (t+d)).Y) (-(-(16*(E+L))/(d:Int))+16*accel*(d:Int)+2):=by
 have ha:=h.acc
 have hdp:(0:Int)<(d:Int):=by omega
 obtain⟨rx,hrx⟩:∃ r,r=16*(s.X-l.X)%(d:Int):=⟨_,rfl⟩
 obtain⟨ry,hry⟩:∃ r,r=16*(s.Y-l.Y)%(d:Int):=⟨_,rfl⟩
 have rx0:=Int.emod_nonneg (16*(s.X-l.X)) (show (d:Int)≠0 by omega)
 have rx1:=Int.emod_lt_of_pos (16*(s.X-l.X)) hdp
 have ry0:=Int.emod_nonneg (16*(s.Y-l.Y)) (show (d:Int)≠0 by omega)
 have ry1:=Int.emod_lt_of_pos (16*(s.Y-l.Y)) hdp
 have qx:=Int.mul_ediv_add_emod (16*(s.X-l.X)) (d:Int)
 have qy:=Int.mul_ediv_add_emod (16*(s.Y-l.Y)) (d:Int)
 rw[← hrx] at rx0 rx1 qx
 rw[← hry] at ry0 ry1 qy
 have dd:(2:Int)*((d:Int)*(d:Int))≤2*(d:Int)*(2*(d:Int)):=by
  have e:2*(d:Int)*(2*(d:Int))=4*((d:Int)*(d:Int)):=by grind
  have:=Int.mul_nonneg (show (0:Int)≤(d:Int) by omega) (show (0:Int)≤(d:Int) by omega)
  omega
 have b3:Qe (-rx) (-ry) (2*(d:Int)):=Qe.box (b:=(d:Int)) (by omega) (by omega) (by omega) dd
 have b:=(((hs.scale (k:=16) (by omega)).add (hl.neg.scale (k:=16) (by omega))).add ((h.behind t d hd).scale (k:=8) (by omega))).add b3
 have g1:16*(s.X-(x (t+d)).X)+16 * -(l.X-(x t).X)+8*(2*((x (t+d)).X-(x t).X-(d:Int)*(v (t+d)).X)) + -rx=(d:Int)*(16*(s.X-l.X)/(d:Int)-16*(v (t+d)).X):=by
  have e:(d:Int)*(16*(s.X-l.X)/(d:Int)-16*(v (t+d)).X)=(d:Int)*(16*(s.X-l.X)/(d:Int))-16*((d:Int)*(v (t+d)).X):=by grind
  omega
 have g2:16*(s.Y-(x (t+d)).Y)+16 * -(l.Y-(x t).Y)+8*(2*((x (t+d)).Y-(x t).Y-(d:Int)*(v (t+d)).Y)) + -ry=(d:Int)*(16*(s.Y-l.Y)/(d:Int)-16*(v (t+d)).Y):=by
  have e:(d:Int)*(16*(s.Y-l.Y)/(d:Int)-16*(v (t+d)).Y)=(d:Int)*(16*(s.Y-l.Y)/(d:Int))-16*((d:Int)*(v (t+d)).Y):=by grind
  omega
 rw[g1,g2] at b
 refine Qe.unscale hdp (b.mono ?_)
 have u:=Int.mul_ediv_add_emod (-(16*(E+L))) (d:Int)
 have u0:=Int.emod_nonneg (-(16*(E+L))) (show (d:Int)≠0 by omega)
 have e1:(d:Int)*(-(-(16*(E+L))/(d:Int))+16*accel*(d:Int)+2)=-((d:Int)*(-(16*(E+L))/(d:Int)))+16*(accel*(d:Int)*(d:Int))+2*(d:Int):=by grind
 have e2:accel*(d:Int)*((d:Int)+1)=accel*(d:Int)*(d:Int)+accel*(d:Int):=by rw[Int.mul_add,Int.mul_one]
 have m1:accel*(d:Int)*1≤accel*(d:Int)*(d:Int):=Int.mul_le_mul_of_nonneg_left (by omega) (Int.mul_nonneg ha.1 (by omega))
 rw[e1,e2]
 omega
theorem Dj {a b g:Int} (ha:-10000000≤a∧a≤10000000) (hb:-10000000≤b∧b≤10000000) (hg:0≤g∧g≤256):Xp a b g=a+(b-a)*g/256:=by
 have m:=Lp (a:=b-a) (A:=20000000) (by omega) hg
 unfold Xp ZS
 rw[Zn (x:=b-a) (by omega),Zn (x:=(b-a)*g) (by omega),Jl (by decide) (by omega)]
 show w64 (a+(b-a)*g/256)=_
 rw[Zn (by omega)]
theorem Ws {a b g lo hi:Int} (ha:lo≤a∧a≤hi) (hb:lo≤b∧b≤hi) (hg:0≤g∧g≤256):lo≤a+(b-a)*g/256∧a+(b-a)*g/256≤hi:=by
 have l1:(lo-a)*g≤(b-a)*g:=Int.mul_le_mul_of_nonneg_right (by omega) hg.1
 have l2:(lo-a)*256≤(lo-a)*g:=Int.mul_le_mul_of_nonpos_left (by omega) hg.2
 have u1:(b-a)*g≤(hi-a)*g:=Int.mul_le_mul_of_nonneg_right (by omega) hg.1
 have u2:(hi-a)*g≤(hi-a)*256:=Int.mul_le_mul_of_nonneg_left hg.2 (by omega)
 omega
theorem Ob {A B g M:Int} (hA:0≤A∧A≤M) (hB:0≤B∧B≤M) (hg:0≤g∧g≤256):(0≤(256-g)*A+g*B∧(256-g)*A+g*B≤256*M)∧0 ≤ -(-((256-g)*A+g*B)/256) ∧ -(-((256-g)*A+g*B)/256)≤M:=by
 have h1:0≤(256-g)*A:=Int.mul_nonneg (by omega) hA.1
 have h2:0≤g*B:=Int.mul_nonneg hg.1 hB.1
 have h3:(256-g)*A≤(256-g)*M:=Int.mul_le_mul_of_nonneg_left hA.2 (by omega)
 have h4:g*B≤g*M:=Int.mul_le_mul_of_nonneg_left hB.2 hg.1
 have h5:(256-g)*M+g*M=256*M:=by grind
 omega
theorem Lr {slack acc d S A D:Int} (hs:0≤slack∧slack≤S) (ha:0≤acc∧acc≤A) (hd:0≤d∧d≤D):grow slack acc d≤(S*d+15)/16+(A*D*d+1)/2+2:=by
 have h1:slack*d≤S*d:=Int.mul_le_mul_of_nonneg_right hs.2 hd.1
 have h2:acc*d≤A*D:=(J7 ha hd).2
 have h3:acc*d*d≤A*D*d:=Int.mul_le_mul_of_nonneg_right h2 hd.1
 unfold grow
 omega
def FN (f:Za) (s:Zf) (accel pl sp d:Int):Za :=
 let p:=Ys f s.Time accel
 ⟨⟨p.Track.ID,p.Track.State,s.Time,⟨p.Track.At.X+(s.At.X-p.Track.At.X)*pl/256,p.Track.At.Y+(s.At.Y-p.Track.At.Y)*pl/256⟩,
  ⟨p.Track.Speed.X+(16*(s.At.X-f.Last.At.X)/d-p.Track.Speed.X)*sp/256,p.Track.Speed.Y+(16*(s.At.Y-f.Last.At.Y)/d-p.Track.Speed.Y)*sp/256⟩,
  s.Height,0,-(-((256-pl)*p.Track.Radius+pl*s.Error)/256)+2,s.Code,p.Track.Hits+1,0⟩,
  -(-((256-sp)*p.Slack+sp*(-(-(16*(s.Error+f.Last.Error))/d)+16*accel*d+2))/256)+2,s⟩
theorem Ou {f:Za} {s:Zf} {accel pl sp d:Int} (hf:f.In) (hs:s.In) (hpl:0≤pl∧pl≤256) (hsp:0≤sp∧sp≤256) (hd:s.Time-f.Last.Time=d∧1≤d∧d≤600) (hacc:0≤accel∧accel≤20)
  (hp:(Zp f s.Time accel).2=0∧(Zp f s.Time accel).1=Ys f s.Time accel∧(Ys f s.Time accel).In)
  (hw:ZQ (Ys f s.Time accel).Track.At s.At (w64 ((Ys f s.Time accel).Track.Radius+s.Error))=true)
  (hh:s.Height=f.Last.Height) (hc:s.Code ≠ -1) (hhits:f.Track.Hits≤1000000)
  (hseen:(-12800≤16*(s.At.X-f.Last.At.X)/d∧16*(s.At.X-f.Last.At.X)/d≤12800)∧(-12800≤16*(s.At.Y-f.Last.At.Y)/d∧16*(s.At.Y-f.Last.At.Y)/d≤12800))
  (hin:(FN f s accel pl sp d).In):ZL f s accel pl sp=(FN f s accel pl sp d,0):=by
 obtain⟨q1,q2,q3⟩:=hp
 have hla:=hf.2.2.2.2.2.2.2.1
 unfold ZL
 have c1:(Z2 f != 0)=false:=by simp[XQ.2 hf]
 have c2:(Zz s != 0)=false:=by simp[Qq.2 hs]
 have c3:ZX pl 0 256=false:=by rw[JR];simp;omega
 have c4:ZX sp 0 256=false:=by rw[JR];simp;omega
 have wd:w64 (s.Time-f.Last.Time)=d:=by rw[hd.1,Zn (by omega)]
 have c5:decide (d≤0)=false:=by simp;omega
 have c6:((Zp f s.Time accel).2 != 0)=false:=by simp[q1]
 have c8:(s.Code != -1)=true:=by simpa using hc
 simp only[c1,c2,c3,c4,wd,c5,c6,c8,cond_false,cond_true,q2,hw,Bool.not_true]
 obtain⟨p,hpe⟩:∃ p,p=Ys f s.Time accel:=⟨_,rfl⟩
 have hpt:p.Track.Time=s.Time:=by rw[hpe];rfl
 have hph:p.Track.Hits=f.Track.Hits:=by rw[hpe];rfl
 rw[← hpe] at q3 ⊢
 obtain⟨a1,a2,a3,a4⟩:=q3.1.2.1
 obtain⟨b1,b2,b3,b4⟩:=hs.2.1
 obtain⟨l1,l2,l3,l4⟩:=hla.2.1
 have hR:=q3.1.2.2.2.2
 have hE:=hs.2.2.2.2
 have hL:=hla.2.2.2.2
 have hS:=q3.2.2.2.2.1
 have hv1:=q3.2.1
 have hv2:=q3.2.2.1
 have hhi:=hs.2.2.1
 have m1:=J7 (a:=256-pl) (b:=p.Track.Radius) (A:=256) (by omega) hR
 have m2:=J7 hpl hE
 have m3:=J7 (a:=256-sp) (b:=p.Slack) (A:=256) (by omega) hS
 have m4:=J7 hacc (show 0≤d∧d≤600 by omega)
 have m5:16*accel*d=16*(accel*d):=Int.mul_assoc ..
 have zu:=Int.mul_ediv_add_emod (-(16*(s.Error+f.Last.Error))) d
 have zq:0 ≤ -(-(16*(s.Error+f.Last.Error))/d) ∧ -(-(16*(s.Error+f.Last.Error))/d)≤32000000:=by
  have q0:-(16*(s.Error+f.Last.Error))/d≤0:=by
   have:-(16*(s.Error+f.Last.Error))/d<1:=by rw[Int.ediv_lt_iff_lt_mul (by omega)];omega
   omega
  have q1:-32000000 ≤ -(16*(s.Error+f.Last.Error))/d:=by
   rw[Int.le_ediv_iff_mul_le (by omega)]
   have:-32000000*d ≤ -32000000*1:=Int.mul_le_mul_of_nonpos_left (by omega) (by omega)
   omega
  omega
 obtain⟨M,hM⟩:∃ M,M=-(-(16*(s.Error+f.Last.Error))/d)+16*accel*d+2:=⟨_,rfl⟩
 have hMb:0≤M∧M≤33000000:=by omega
 have m6:=J7 hsp hMb
 have r7:Xp p.Track.At.X s.At.X pl=p.Track.At.X+(s.At.X-p.Track.At.X)*pl/256:=Dj (by omega) (by omega) hpl
 have r8:Xp p.Track.At.Y s.At.Y pl=p.Track.At.Y+(s.At.Y-p.Track.At.Y)*pl/256:=Dj (by omega) (by omega) hpl
 have r9:Qd (w64 (w64 (w64 (256-pl)*p.Track.Radius)+w64 (pl*s.Error))) 256=-(-((256-pl)*p.Track.Radius+pl*s.Error)/256):=by
  unfold Qd
  rw[Zn (x:=256-pl) (by omega),Zn (x:=(256-pl)*p.Track.Radius) (by omega),Zn (x:=pl*s.Error) (by omega),Zn (x:=_+_) (by omega),KI (by decide) (by omega)]
 have r10:ZS (w64 (16*w64 (s.At.X-f.Last.At.X))) d=16*(s.At.X-f.Last.At.X)/d:=by
  unfold ZS
  rw[Zn (x:=s.At.X-f.Last.At.X) (by omega),Zn (x:=16*_) (by omega),Jl (by omega) (by omega)]
 have r11:ZS (w64 (16*w64 (s.At.Y-f.Last.At.Y))) d=16*(s.At.Y-f.Last.At.Y)/d:=by
  unfold ZS
  rw[Zn (x:=s.At.Y-f.Last.At.Y) (by omega),Zn (x:=16*_) (by omega),Jl (by omega) (by omega)]
 have r12:Xp p.Track.Speed.X (16*(s.At.X-f.Last.At.X)/d) sp=p.Track.Speed.X+(16*(s.At.X-f.Last.At.X)/d-p.Track.Speed.X)*sp/256:=Dj (by omega) (by omega) hsp
 have r13:Xp p.Track.Speed.Y (16*(s.At.Y-f.Last.At.Y)/d) sp=p.Track.Speed.Y+(16*(s.At.Y-f.Last.At.Y)/d-p.Track.Speed.Y)*sp/256:=Dj (by omega) (by omega) hsp
 have r14:Qd (w64 (16*w64 (s.Error+f.Last.Error))) d=-(-(16*(s.Error+f.Last.Error))/d):=by
  unfold Qd
  rw[Zn (x:=s.Error+f.Last.Error) (by omega),Zn (x:=16*_) (by omega),KI (by omega) (by omega)]
 have rM:w64 (w64 (-(-(16*(s.Error+f.Last.Error))/d)+w64 (w64 (16*accel)*d))+2)=M:=by
  rw[Zn (x:=16*accel) (by omega),Zn (x:=16*accel*d) (by omega),Zn (x:=_+16*accel*d) (by omega),Zn (by omega),hM]
 have r15:Qd (w64 (w64 (w64 (256-sp)*p.Slack)+w64 (sp*M))) 256=-(-((256-sp)*p.Slack+sp*M)/256):=by
  unfold Qd
  rw[Zn (x:=256-sp) (by omega),Zn (x:=(256-sp)*p.Slack) (by omega),Zn (x:=sp*M) (by omega),Zn (x:=_+_) (by omega),KI (by decide) (by omega)]
 have r16:Xs (ZS (w64 (16*w64 (s.Height-f.Last.Height))) d) (-3200) 3200=0:=by
  rw[hh,Int.sub_self,show w64 (16*w64 0)=0 by decide]
  unfold ZS
  rw[Jl (by omega) (by omega)]
  show Xs (0/d) (-3200) 3200=0
  rw[Int.zero_ediv];decide
 simp only[r7,r8,r9,r10,r11,r12,r13,r14,rM,r15,r16]
 rw[Zn (x:=-(-((256-pl)*p.Track.Radius+pl*s.Error)/256)+2) (by omega),Zn (x:=p.Track.Hits+1) (by have:=hf.2.2.2.2.2.1;omega),Zn (x:=-(-((256-sp)*p.Slack+sp*M)/256)+2) (by omega),hpt]
 have hU:FN f s accel pl sp d=(⟨⟨p.Track.ID,p.Track.State,s.Time,⟨p.Track.At.X+(s.At.X-p.Track.At.X)*pl/256,p.Track.At.Y+(s.At.Y-p.Track.At.Y)*pl/256⟩,
  ⟨p.Track.Speed.X+(16*(s.At.X-f.Last.At.X)/d-p.Track.Speed.X)*sp/256,p.Track.Speed.Y+(16*(s.At.Y-f.Last.At.Y)/d-p.Track.Speed.Y)*sp/256⟩,
  s.Height,0,-(-((256-pl)*p.Track.Radius+pl*s.Error)/256)+2,s.Code,p.Track.Hits+1,0⟩,-(-((256-sp)*p.Slack+sp*M)/256)+2,s⟩:Za):=by
  rw[hM,hpe];rfl
 rw[← hU]
 have c9:(Z2 (FN f s accel pl sp d) != 0)=false:=by simp[XQ.2 hin]
 rw[c9,cond_false]
end Go.Sky
end
section
namespace Go.Sky
open Go
structure Ze where
 (rules:Zx)
 (all:List followed)
 (next last:Int)
deriving DecidableEq
def Ze.zero:Ze:=⟨Zx.zero,[],0,0⟩
def Ze.k (t:Ze) (A:Option Addr) (c:Nat):Array Value:=#[.int .i64 t.rules.Need,.int .i64 t.rules.Of,.int .i64 t.rules.Misses,.int .i64 t.rules.Accel,.int .i64 t.rules.Place,.int .i64 t.rules.Speed,.slice A t.all.length c,.int .i64 t.next,.int .i64 t.last]
end Go.Sky
end
