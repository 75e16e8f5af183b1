/- Lemmas toward the given statement (part 3 of 20): Wa Nj Geo. Each theorem states its own conditions; nothing is assumed beyond them. -/
import Derived.Test.YtjggkpkehdnhiaaGreatDoorBx02
section
namespace Go.Sky
open Go Go.Eng Go.Proofs
def ZI (n:Int) (low:Int) (high:Int):Bool :=
 (decide (n<low))||(decide (n>high))
set_option maxRecDepth 100000 in
theorem Xe (n:Int) (low:Int) (high:Int) (w:World):Calls Tryz.prog 127 #[.int .i64 n,.int .i64 low,.int .i64 high] w (Ret w (.bool (ZI n low high))):=by
 exact Zk (vs:=[.i n,.i low,.i high]) (w:=w) Tryz.func127 rfl Tryz.ntmps127 rfl (TC.sr (TL.r 1 [] [(6,.b false)] {} (TL.nr (TL.r 4 [] [(10,.b (decide (n<low)))] {} (TL.j 10 (decide (n<low)) 8 [] [] (fun β=>[(14,.b (β||(decide (n>high))))]) Kr {} {} (TL.r 9 [] [(6,.b ((decide (n<low))||(decide (n>high))))] {} (TL.next rfl (TC.ret (TE.ret [] (.b ((decide (n<low))||(decide (n>high)))) {} (by unfold ZI;refine eS (fun z=>(.b z:Value)) ?_;exact rfl))))))))))
def Y4 (p:P):Int :=
 cond ((((decide (p.X<(-1000000)))||(decide (p.X>1000000)))||(decide (p.Y<(-1000000))))||(decide (p.Y>1000000))) (
  4) (
  0)
set_option maxRecDepth 100000 in
theorem Vn (p:P) (w:World):Calls Tryz.prog 47 #[P.v p] w (Ret w (.int .i64 (Y4 p))):=by
 refine Zk (vs:=[P.v p]) (w:=w) Tryz.func47 rfl Tryz.ntmps47 rfl (TC.sr (TL.nw 1 (fun b1=>.p0 b1) (fun b1=>Bk b1 (P.c p) 36) (fun b1=>{}) (fun b1=>TL.r 2 [] [(2,.i 0)] {} (TL.ns (TC.sr (TL.r 4 [0] [(6,.b (decide (p.X<(-1000000))))] {} (TL.j 6 (decide (p.X<(-1000000))) 8 [] [0] (fun β=>[(10,.b (β||(decide (p.X>1000000))))]) Kr {} {} (TL.r 9 [] [(11,.b ((decide (p.X<(-1000000)))||(decide (p.X>1000000))))] {} (TL.j 11 ((decide (p.X<(-1000000)))||(decide (p.X>1000000))) 13 [] [0] (fun β=>[(15,.b (β||(decide (p.Y<(-1000000)))))]) Kr {} {} (TL.r 14 [] [(16,.b (((decide (p.X<(-1000000)))||(decide (p.X>1000000)))||(decide (p.Y<(-1000000)))))] {} (TL.j 16 (((decide (p.X<(-1000000)))||(decide (p.X>1000000)))||(decide (p.Y<(-1000000)))) 18 [] [0] (fun β=>[(20,.b (β||(decide (p.Y>1000000))))]) Kr {} {} (TL.next rfl (TC.cond ((((decide (p.X<(-1000000)))||(decide (p.X>1000000)))||(decide (p.Y<(-1000000))))||(decide (p.Y>1000000))) rfl Kr (fun h1=>?_) (fun h1=>?_))))))))))))))
 ·exact TC.sr (TL.r 1 [] [(2,.i 4)] {} (TL.next rfl (TC.ret (TE.rt (TE.ret [] (.i 4) {} (by unfold Y4;refine eS (fun z=>(.i z:Value)) ?_;exact Zj h1 (rfl)))))))
 ·exact TC.snr (TL.r 1 [] [(2,.i 0)] {} (TL.next rfl (TC.ret (TE.ret [] (.i 0) {} (by unfold Y4;refine eS (fun z=>(.i z:Value)) ?_;exact Zb h1 (rfl))))))
def Zz (s:Zg):Int :=
 let r1:=ZI s.Time 0 200000
 cond r1 (
  4) (
  let r2:=Y4 s.At
  cond (r2 != 0) (
   4) (
   let r3:=ZI s.Height 0 60000
   cond r3 (
    4) (
    let r4:=ZI s.Code (-1) 4095
    cond r4 (
     4) (
     let r5:=ZI s.Error 0 1000000
     cond r5 (
      4) (
      0)))))
set_option maxRecDepth 100000 in
theorem Xq (s:Zg) (w:World):Calls Tryz.prog 70 #[Zg.v s] w (Ret w (.int .i64 (Zz s))):=by
 refine Zk (vs:=[Zg.v s]) (w:=w) Tryz.func70 rfl Tryz.ntmps70 rfl (TC.sr (TL.nw 1 (fun b1=>.p0 b1) (fun b1=>Bk b1 (Zg.c s) 42) (fun b1=>{}) (fun b1=>TL.r 2 [] [(2,.i 0)] {} (TL.ns (TC.sr (TL.r 2 [0] [(4,.i s.Time)] {} (TL.c 5 (ZI s.Time 0 200000) (fun r1=>.b r1) (fun w _=>Xe s.Time 0 200000 w) {} (fun r1 hr1=>TL.r 4 [] [(6,.b r1)] {} (TL.split 6 r1 Kr (fun h1=>?_) (fun h1=>?_))))))))))
 ·exact TL.r 24 [] [(26,.b true)] {} (TL.next rfl (TC.condT rfl Kr (TC.sr (TL.r 1 [] [(2,.i 4)] {} (TL.next rfl (TC.ret (TE.rt (TE.ret [] (.i 4) {} (by unfold Zz;refine eS (fun z=>(.i z:Value)) ?_;subst hr1;exact Zj h1 (rfl))))))))))
 ·refine TL.r 6 [0] [(8,P.v s.At)] {} (TL.c 9 (Y4 s.At) (fun r2=>.i r2) (fun w _=>Vn s.At w) {} (fun r2 hr2=>TL.r 10 [] [(12,.b (r2 != 0))] {} (TL.split 12 (r2 != 0) Kr (fun h2=>?_) (fun h2=>?_))))
  ·exact TL.r 24 [] [(26,.b true)] {} (TL.next rfl (TC.condT rfl Kr (TC.sr (TL.r 1 [] [(2,.i 4)] {} (TL.next rfl (TC.ret (TE.rt (TE.ret [] (.i 4) {} (by unfold Zz;refine eS (fun z=>(.i z:Value)) ?_;subst hr1 hr2;exact Zb h1 (Zj h2 (rfl)))))))))))
  ·refine TL.r 12 [0] [(14,.i s.Height)] {} (TL.c 15 (ZI s.Height 0 60000) (fun r3=>.b r3) (fun w _=>Xe s.Height 0 60000 w) {} (fun r3 hr3=>TL.r 15 [] [(17,.b r3)] {} (TL.split 17 r3 Kr (fun h3=>?_) (fun h3=>?_))))
   ·exact TL.r 24 [] [(26,.b true)] {} (TL.next rfl (TC.condT rfl Kr (TC.sr (TL.r 1 [] [(2,.i 4)] {} (TL.next rfl (TC.ret (TE.rt (TE.ret [] (.i 4) {} (by unfold Zz;refine eS (fun z=>(.i z:Value)) ?_;subst hr1 hr2 hr3;exact Zb h1 (Zb h2 (Zj h3 (rfl))))))))))))
   ·refine TL.r 17 [0] [(19,.i s.Code)] {} (TL.c 20 (ZI s.Code (-1) 4095) (fun r4=>.b r4) (fun w _=>Xe s.Code (-1) 4095 w) {} (fun r4 hr4=>TL.r 20 [] [(22,.b r4)] {} (TL.split 22 r4 Kr (fun h4=>?_) (fun h4=>?_))))
    ·exact TL.r 24 [] [(26,.b true)] {} (TL.next rfl (TC.condT rfl Kr (TC.sr (TL.r 1 [] [(2,.i 4)] {} (TL.next rfl (TC.ret (TE.rt (TE.ret [] (.i 4) {} (by unfold Zz;refine eS (fun z=>(.i z:Value)) ?_;subst hr1 hr2 hr3 hr4;exact Zb h1 (Zb h2 (Zb h3 (Zj h4 (rfl)))))))))))))
    ·refine TL.r 22 [0] [(24,.i s.Error)] {} (TL.c 25 (ZI s.Error 0 1000000) (fun r5=>.b r5) (fun w _=>Xe s.Error 0 1000000 w) {} (fun r5 hr5=>TL.r 24 [] [(26,.b r5)] {} (TL.next rfl (TC.cond r5 rfl Kr (fun h5=>?_) (fun h5=>?_)))))
     ·exact TC.sr (TL.r 1 [] [(2,.i 4)] {} (TL.next rfl (TC.ret (TE.rt (TE.ret [] (.i 4) {} (by unfold Zz;refine eS (fun z=>(.i z:Value)) ?_;subst hr1 hr2 hr3 hr4 hr5;exact Zb h1 (Zb h2 (Zb h3 (Zb h4 (Zj h5 (rfl)))))))))))
     ·exact TC.snr (TL.r 1 [] [(2,.i 0)] {} (TL.next rfl (TC.ret (TE.ret [] (.i 0) {} (by unfold Zz;refine eS (fun z=>(.i z:Value)) ?_;subst hr1 hr2 hr3 hr4 hr5;exact Zb h1 (Zb h2 (Zb h3 (Zb h4 (Zb h5 (rfl))))))))))
def Q7 (a:P) (b_:P):P :=
 (⟨w64 (a.X-b_.X),w64 (a.Y-b_.Y)⟩:P)
set_option maxRecDepth 100000 in
theorem Wp (a:P) (b_:P) (w:World):Calls Tryz.prog 73 #[P.v a,P.v b_] w (Ret w (P.v (Q7 a b_))):=by
 exact Zk (vs:=[P.v a,P.v b_]) (w:=w) Tryz.func73 rfl Tryz.ntmps73 rfl (TC.sr (TL.nw 2 (fun b1=>.p0 b1) (fun b1=>Bk b1 (P.c a) 36) (fun b1=>{}) (fun b1=>TL.nw 3 (fun b2=>.p0 b2) (fun b2=>Bk b2 (P.c b_) 36) (fun b2=>{}) (fun b2=>TL.nw 4 (fun b3=>.p0 b3) (fun b3=>Bk b3 (P.c P.zero) 36) (fun b3=>{}) (fun b3=>TL.nr (TL.r 11 [2,1,2,1] [(15,P.v (⟨w64 (a.X-b_.X),w64 (a.Y-b_.Y)⟩:P))] {} (TL.s 0 (Bk b3 (P.c (⟨w64 (a.X-b_.X),w64 (a.Y-b_.Y)⟩:P)) 36) (fun _=>{}) (TL.next rfl (TC.ret (TE.ret [0] (P.v (⟨w64 (a.X-b_.X),w64 (a.Y-b_.Y)⟩:P)) {} (by unfold Q7;refine eS (fun z=>(P.v z:Value)) ?_;exact rfl)))))))))))
def Qv (a:P) (b_:P):P :=
 (⟨w64 (a.X+b_.X),w64 (a.Y+b_.Y)⟩:P)
set_option maxRecDepth 100000 in
theorem Wq (a:P) (b_:P) (w:World):Calls Tryz.prog 96 #[P.v a,P.v b_] w (Ret w (P.v (Qv a b_))):=by
 exact Zk (vs:=[P.v a,P.v b_]) (w:=w) Tryz.func96 rfl Tryz.ntmps96 rfl (TC.sr (TL.nw 2 (fun b1=>.p0 b1) (fun b1=>Bk b1 (P.c a) 36) (fun b1=>{}) (fun b1=>TL.nw 3 (fun b2=>.p0 b2) (fun b2=>Bk b2 (P.c b_) 36) (fun b2=>{}) (fun b2=>TL.nw 4 (fun b3=>.p0 b3) (fun b3=>Bk b3 (P.c P.zero) 36) (fun b3=>{}) (fun b3=>TL.nr (TL.r 11 [2,1,2,1] [(15,P.v (⟨w64 (a.X+b_.X),w64 (a.Y+b_.Y)⟩:P))] {} (TL.s 0 (Bk b3 (P.c (⟨w64 (a.X+b_.X),w64 (a.Y+b_.Y)⟩:P)) 36) (fun _=>{}) (TL.next rfl (TC.ret (TE.ret [0] (P.v (⟨w64 (a.X+b_.X),w64 (a.Y+b_.Y)⟩:P)) {} (by unfold Qv;refine eS (fun z=>(P.v z:Value)) ?_;exact rfl)))))))))))
def Vu (a:P) (b_:P):Int :=
 w64 ((w64 (a.X*b_.X))+(w64 (a.Y*b_.Y)))
set_option maxRecDepth 100000 in
theorem FI (a:P) (b_:P) (w:World):Calls Tryz.prog 151 #[P.v a,P.v b_] w (Ret w (.int .i64 (Vu a b_))):=by
 exact Zk (vs:=[P.v a,P.v b_]) (w:=w) Tryz.func151 rfl Tryz.ntmps151 rfl (TC.sr (TL.nw 2 (fun b1=>.p0 b1) (fun b1=>Bk b1 (P.c a) 36) (fun b1=>{}) (fun b1=>TL.nw 3 (fun b2=>.p0 b2) (fun b2=>Bk b2 (P.c b_) 36) (fun b2=>{}) (fun b2=>TL.r 3 [] [(4,.i 0)] {} (TL.nr (TL.r 12 [1,0,1,0] [(4,.i (w64 ((w64 (a.X*b_.X))+(w64 (a.Y*b_.Y)))))] {} (TL.next rfl (TC.ret (TE.ret [] (.i (w64 ((w64 (a.X*b_.X))+(w64 (a.Y*b_.Y))))) {} (by unfold Vu;refine eS (fun z=>(.i z:Value)) ?_;exact rfl))))))))))
def ZN (a:P) (b_:P):Int :=
 let r1:=Q7 a b_
 let r2:=Vu r1 r1
 r2
set_option maxRecDepth 100000 in
theorem JK (a:P) (b_:P) (w:World):Calls Tryz.prog 103 #[P.v a,P.v b_] w (Ret w (.int .i64 (ZN a b_))):=by
 exact Zk (vs:=[P.v a,P.v b_]) (w:=w) Tryz.func103 rfl Tryz.ntmps103 rfl (TC.sr (TL.nw 2 (fun b1=>.p0 b1) (fun b1=>Bk b1 (P.c a) 36) (fun b1=>{}) (fun b1=>TL.nw 3 (fun b2=>.p0 b2) (fun b2=>Bk b2 (P.c b_) 36) (fun b2=>{}) (fun b2=>TL.r 3 [] [(4,.i 0)] {} (TL.nr (TL.r 2 [1,0] [(6,P.v a),(7,P.v b_)] {} (TL.c 8 (Q7 a b_) (fun r1=>P.v r1) (fun w _=>Wp a b_ w) {} (fun r1 hr1=>TL.nw 5 (fun b3=>.p0 b3) (fun b3=>Bk b3 (P.c P.zero) 36) (fun b3=>{}) (fun b3=>TL.s 0 (Bk b3 (P.c r1) 36) (fun _=>{}) (TL.nr (TL.r 2 [0,0] [(9,P.v r1),(10,P.v r1)] {} (TL.c 11 (Vu r1 r1) (fun r2=>.i r2) (fun w _=>FI r1 r1 w) {} (fun r2 hr2=>TL.r 4 [] [(4,.i r2)] {} (TL.next rfl (TC.ret (TE.ret [] (.i r2) {} (by unfold ZN;refine eS (fun z=>(.i z:Value)) ?_;subst hr1 hr2;exact rfl)))))))))))))))))
def ZV (a:P) (b_:P) (d:Int):Bool :=
 cond ((decide (d≥0))&&(decide (d≤8000000))) (
  let r1:=ZN a b_
  decide (r1≤(w64 (d*d)))) (
  false)
set_option maxRecDepth 100000 in
theorem Jp (a:P) (b_:P) (d:Int) (w:World):Calls Tryz.prog 48 #[P.v a,P.v b_,.int .i64 d] w (Ret w (.bool (ZV a b_ d))):=by
 refine Zk (vs:=[P.v a,P.v b_,.i d]) (w:=w) Tryz.func48 rfl Tryz.ntmps48 rfl (TC.sr (TL.nw 3 (fun b1=>.p0 b1) (fun b1=>Bk b1 (P.c a) 36) (fun b1=>{}) (fun b1=>TL.nw 4 (fun b2=>.p0 b2) (fun b2=>Bk b2 (P.c b_) 36) (fun b2=>{}) (fun b2=>TL.r 3 [] [(6,.b false)] {} (TL.nr (TL.r 3 [] [(9,.b (decide (d≥0)))] {} (TL.j 9 (decide (d≥0)) 6 [] [] (fun β=>[(12,.b (β&&(decide (d≤8000000))))]) Kr {} {} (TL.r 7 [] [(13,.b ((decide (d≥0))&&(decide (d≤8000000))))] {} (TL.split 13 ((decide (d≥0))&&(decide (d≤8000000))) Kr (fun h1=>?_) (fun h1=>?_))))))))))
 ·exact TL.r 9 [1,0] [(14,P.v a),(15,P.v b_)] {} (TL.c 16 (ZN a b_) (fun r1=>.i r1) (fun w _=>JK a b_ w) {} (fun r1 hr1=>TL.r 16 [] [(6,.b (decide (r1≤(w64 (d*d)))))] {} (TL.next rfl (TC.ret (TE.ret [] (.b (decide (r1≤(w64 (d*d))))) {} (by unfold ZV;refine eS (fun z=>(.b z:Value)) ?_;subst hr1;exact Zj h1 (rfl)))))))
 ·exact TL.r 16 [] [(6,.b false)] {} (TL.next rfl (TC.ret (TE.ret [] (.b false) {} (by unfold ZV;refine eS (fun z=>(.b z:Value)) ?_;exact Zb h1 (rfl)))))
def Xr (a:Int) (b_:Int):Int×Int :=
 cond (b_==0) (
  (0,10)) (
  cond ((a==(-9223372036854775808))&&(b_==(-1))) (
   (0,2)) (
   cond (((a.tmod b_) != 0)&&(!((decide (a<0))==(decide (b_<0))))) (
    (w64 ((w64 (a.tdiv b_))-1),0)) (
    (w64 (a.tdiv b_),0))))
set_option maxRecDepth 100000 in
theorem UB (a:Int) (b_:Int) (w:World):Calls Tryz.prog 124 #[.int .i64 a,.int .i64 b_] w (Ret w (.tuple #[.int .i64 ((Xr a b_).1),.int .i64 ((Xr a b_).2)])):=by
 refine Zk (vs:=[.i a,.i b_]) (w:=w) Tryz.func124 rfl Tryz.ntmps124 rfl (TC.sr (TL.r 2 [] [(4,.i 0),(5,.i 0)] {} (TL.ns (TC.block (TC.sr (TL.r 3 [] [(7,.b (b_==0))] {} (TL.next rfl (TC.cond (b_==0) rfl Kr (fun h1=>?_) (fun h1=>?_)))))))))
 ·refine TC.sr (TL.r 2 [] [(4,.i 0),(5,.i 10)] {} (TL.next rfl (TC.ret (TE.rb (TE.rt ?_)))))
  exact TE.ret [] (.tuple #[.i 0,.i 10]) {} (by unfold Xr;refine eS (a:=(0,10)) (fun (z:Int×Int)=>(.tuple #[.i z.1,.i z.2]:Value)) ?_;exact Zj h1 (rfl))
 ·have q1_0:=(ZQ h1)
  refine TC.sr (TL.r 3 [] [(13,.b (a==(-9223372036854775808)))] {} (TL.j 13 (a==(-9223372036854775808)) 6 [] [] (fun β=>[(16,.b (β&&(b_==(-1))))]) Kr {} {} (TL.r 7 [] [(10,.b ((a==(-9223372036854775808))&&(b_==(-1))))] {} (TL.next rfl (TC.cond ((a==(-9223372036854775808))&&(b_==(-1))) rfl Kr (fun h2=>?_) (fun h2=>?_))))))
  ·refine TC.sr (TL.r 2 [] [(4,.i 0),(5,.i 2)] {} (TL.next rfl (TC.ret (TE.rb (TE.rt ?_)))))
   exact TE.ret [] (.tuple #[.i 0,.i 2]) {} (by unfold Xr;refine eS (a:=(0,2)) (fun (z:Int×Int)=>(.tuple #[.i z.1,.i z.2]:Value)) ?_;exact Zb h1 (Zj h2 (rfl)))
  ·have q2_0:=((X8 h2).imp (fun h=>(ZQ h)) (fun h=>(ZQ h)))
   refine TC.skip (TE.nb (TE.nr (TL.r 2 [] [(17,.i a),(18,.i b_)] {} (TL.v (sV (binOp .quo 3 (.i a) (.i b_))) 19 (.i (w64 (a.tdiv b_))) (fun w hM=>Lt sdr) {} (TL.r 4 [] [(6,.i (w64 (a.tdiv b_)))] {} (TL.ns (TC.sr (TL.r 2 [] [(20,.i a),(21,.i b_)] {} (TL.v (sV (binOp .rem 3 (.i a) (.i b_))) 22 (.i (a.tmod b_)) (fun w hM=>W9 sdr) {} (TL.r 5 [] [(24,.b ((a.tmod b_) != 0))] {} (TL.j 24 ((a.tmod b_) != 0) 11 [] [] (fun β=>[(30,.b (β&&(!((decide (a<0))==(decide (b_<0))))))]) Kr {} {} (TL.next rfl (TC.cond (((a.tmod b_) != 0)&&(!((decide (a<0))==(decide (b_<0))))) rfl Kr (fun h3=>?_) (fun h3=>?_))))))))))))))
   ·exact TC.region (TL.r 3 [] [(6,.i (w64 ((w64 (a.tdiv b_))-1)))] {} (TL.nr (TL.r 3 [] [(4,.i (w64 ((w64 (a.tdiv b_))-1))),(5,.i 0)] {} (TL.next rfl (TC.ret (TE.ret [] (.tuple #[.i (w64 ((w64 (a.tdiv b_))-1)),.i 0]) {} (by unfold Xr;refine eS (a:=(w64 ((w64 (a.tdiv b_))-1),0)) (fun (z:Int×Int)=>(.tuple #[.i z.1,.i z.2]:Value)) ?_;exact Zb h1 (Zb h2 (Zj h3 (rfl))))))))))
   ·exact TC.snr (TL.r 3 [] [(4,.i (w64 (a.tdiv b_))),(5,.i 0)] {} (TL.next rfl (TC.ret (TE.ret [] (.tuple #[.i (w64 (a.tdiv b_)),.i 0]) {} (by unfold Xr;refine eS (a:=(w64 (a.tdiv b_),0)) (fun (z:Int×Int)=>(.tuple #[.i z.1,.i z.2]:Value)) ?_;exact Zb h1 (Zb h2 (Zb h3 (rfl))))))))
def X9 (a:Int) (b_:Int):Int×Int :=
 let r1:=Xr a b_
 cond (r1.2==0) (
  cond ((a.tmod b_) != 0) (
   (w64 (r1.1+1),r1.2)) (
   (r1.1,r1.2))) (
  (r1.1,r1.2))
theorem CL {a b:Int} {r:Int×Int} (hr:Xr a b=r) (h:(r.2==0)=true):b≠0:=by
 rintro rfl;subst hr;revert h;simp[Xr]
set_option maxRecDepth 100000 in
theorem K2 (a:Int) (b_:Int) (w:World):Calls Tryz.prog 125 #[.int .i64 a,.int .i64 b_] w (Ret w (.tuple #[.int .i64 ((X9 a b_).1),.int .i64 ((X9 a b_).2)])):=by
 refine Zk (vs:=[.i a,.i b_]) (w:=w) Tryz.func125 rfl Tryz.ntmps125 rfl (TC.sr (TL.r 2 [] [(4,.i 0),(5,.i 0)] {} (TL.nr (TL.r 2 [] [(9,.i a),(10,.i b_)] {} (TL.c 11 (Xr a b_) (fun r1=>.tuple #[.i r1.1,.i r1.2]) (fun w _=>UB a b_ w) {} (fun r1 hr1=>TL.r 8 [] [(6,.i r1.1),(7,.i r1.2)] {} (TL.ns (TC.sr (TL.r 3 [] [(16,.b (r1.2==0))] {} (TL.split 16 (r1.2==0) Kr (fun h1=>?_) (fun h1=>?_)))))))))))
 ·refine TL.r 5 [] [(17,.i a),(18,.i b_)] {} (TL.v (sV (binOp .rem 3 (.i a) (.i b_))) 19 (.i (a.tmod b_)) (fun w hM=>W9 (CL hr1 h1)) {} (TL.r 8 [] [(21,.b ((a.tmod b_) != 0))] {} (TL.next rfl (TC.cond ((a.tmod b_) != 0) rfl Kr (fun h2=>?_) (fun h2=>?_)))))
  ·exact TC.region (TL.r 3 [] [(6,.i (w64 (r1.1+1)))] {} (TL.nr (TL.r 4 [] [(4,.i (w64 (r1.1+1))),(5,.i r1.2)] {} (TL.next rfl (TC.ret (TE.ret [] (.tuple #[.i (w64 (r1.1+1)),.i r1.2]) {} (by unfold X9;refine eS (a:=(w64 (r1.1+1),r1.2)) (fun (z:Int×Int)=>(.tuple #[.i z.1,.i z.2]:Value)) ?_;subst hr1;exact Zj h1 (Zj h2 (rfl)))))))))
  ·exact TC.snr (TL.r 4 [] [(4,.i r1.1),(5,.i r1.2)] {} (TL.next rfl (TC.ret (TE.ret [] (.tuple #[.i r1.1,.i r1.2]) {} (by unfold X9;refine eS (a:=(r1.1,r1.2)) (fun (z:Int×Int)=>(.tuple #[.i z.1,.i z.2]:Value)) ?_;subst hr1;exact Zj h1 (Zb h2 (rfl)))))))
 ·exact TL.r 8 [] [(21,.b false)] {} (TL.next rfl (TC.condF rfl Kr (TC.snr (TL.r 4 [] [(4,.i r1.1),(5,.i r1.2)] {} (TL.next rfl (TC.ret (TE.ret [] (.tuple #[.i r1.1,.i r1.2]) {} (by unfold X9;refine eS (a:=(r1.1,r1.2)) (fun (z:Int×Int)=>(.tuple #[.i z.1,.i z.2]:Value)) ?_;subst hr1;exact Zb h1 (rfl)))))))))
def Xs (n:Int) (low:Int) (high:Int):Int :=
 cond ((decide (n<low))||(decide (low>high))) (
  low) (
  cond (decide (n>high)) (
   high) (
   n))
set_option maxRecDepth 100000 in
theorem UC (n:Int) (low:Int) (high:Int) (w:World):Calls Tryz.prog 100 #[.int .i64 n,.int .i64 low,.int .i64 high] w (Ret w (.int .i64 (Xs n low high))):=by
 refine Zk (vs:=[.i n,.i low,.i high]) (w:=w) Tryz.func100 rfl Tryz.ntmps100 rfl (TC.sr (TL.r 1 [] [(6,.i 0)] {} (TL.ns (TC.block (TC.sr (TL.r 4 [] [(11,.b (decide (n<low)))] {} (TL.j 11 (decide (n<low)) 8 [] [] (fun β=>[(15,.b (β||(decide (low>high))))]) Kr {} {} (TL.r 9 [] [(7,.b ((decide (n<low))||(decide (low>high))))] {} (TL.next rfl (TC.cond ((decide (n<low))||(decide (low>high))) rfl Kr (fun h1=>?_) (fun h1=>?_)))))))))))
 ·refine TC.sr (TL.r 2 [] [(6,.i low)] {} (TL.next rfl (TC.ret (TE.rb (TE.rt ?_)))))
  exact TE.ret [] (.i low) {} (by unfold Xs;refine eS (fun z=>(.i z:Value)) ?_;exact Zj h1 (rfl))
 ·refine TC.sr (TL.r 4 [] [(17,.b (decide (n>high)))] {} (TL.next rfl (TC.cond (decide (n>high)) rfl Kr (fun h2=>?_) (fun h2=>?_))))
  ·refine TC.sr (TL.r 2 [] [(6,.i high)] {} (TL.next rfl (TC.ret (TE.rb (TE.rt ?_)))))
   exact TE.ret [] (.i high) {} (by unfold Xs;refine eS (fun z=>(.i z:Value)) ?_;exact Zb h1 (Zj h2 (rfl)))
  ·exact TC.skip (TE.nb (TE.nr (TL.r 2 [] [(6,.i n)] {} (TL.next rfl (TC.ret (TE.ret [] (.i n) {} (by unfold Xs;refine eS (fun z=>(.i z:Value)) ?_;exact Zb h1 (Zb h2 (rfl)))))))))
def YE (t:Track):Int :=
 let r1:=Zz (⟨t.Time,t.At,t.Height,t.Code,0⟩:Zg)
 cond (((r1 != 0)||(decide (t.Radius<0)))||(decide (t.Radius>4000000))) (
  4) (
  0)
set_option maxRecDepth 100000 in
theorem Vd (t:Track) (w:World):Calls Tryz.prog 102 #[Track.v t] w (Ret w (.int .i64 (YE t))):=by
 refine Zk (vs:=[Track.v t]) (w:=w) Tryz.func102 rfl Tryz.ntmps102 rfl (TC.sr (TL.nw 1 (fun b1=>.p0 b1) (fun b1=>Bk b1 (Track.c t) 40) (fun b1=>{}) (fun b1=>TL.r 2 [] [(2,.i 0)] {} (TL.ns (TC.sr (TL.r 9 [0,0,0,0] [(11,Zg.v (⟨t.Time,t.At,t.Height,t.Code,0⟩:Zg))] {} (TL.c 12 (Zz (⟨t.Time,t.At,t.Height,t.Code,0⟩:Zg)) (fun r1=>.i r1) (fun w _=>Xq (⟨t.Time,t.At,t.Height,t.Code,0⟩:Zg) w) {} (fun r1 hr1=>TL.r 12 [] [(14,.b (r1 != 0))] {} (TL.j 14 (r1 != 0) 16 [] [0] (fun β=>[(18,.b (β||(decide (t.Radius<0))))]) Kr {} {} (TL.r 17 [] [(19,.b ((r1 != 0)||(decide (t.Radius<0))))] {} (TL.j 19 ((r1 != 0)||(decide (t.Radius<0))) 21 [] [0] (fun β=>[(23,.b (β||(decide (t.Radius>4000000))))]) Kr {} {} (TL.next rfl (TC.cond (((r1 != 0)||(decide (t.Radius<0)))||(decide (t.Radius>4000000))) rfl Kr (fun h1=>?_) (fun h1=>?_))))))))))))))
 ·exact TC.sr (TL.r 1 [] [(2,.i 4)] {} (TL.next rfl (TC.ret (TE.rt (TE.ret [] (.i 4) {} (by unfold YE;refine eS (fun z=>(.i z:Value)) ?_;subst hr1;exact Zj h1 (rfl)))))))
 ·exact TC.snr (TL.r 1 [] [(2,.i 0)] {} (TL.next rfl (TC.ret (TE.ret [] (.i 0) {} (by unfold YE;refine eS (fun z=>(.i z:Value)) ?_;subst hr1;exact Zb h1 (rfl))))))
def Qy (slack:Int) (accel:Int) (seconds:Int):Int×Int :=
 cond ((((decide (slack<0))||(decide (slack>409600)))||(decide (accel<0)))||(decide (accel>20))) (
  (0,4)) (
  cond ((decide (seconds<0))||(decide (seconds>600))) (
   (0,12)) (
   cond (seconds==0) (
    (0,0)) (
    let r1:=X9 (w64 (slack*seconds)) 16
    let r2:=X9 (w64 ((w64 (accel*seconds))*seconds)) 2
    (w64 ((w64 (r1.1+r2.1))+2),0))))
set_option maxRecDepth 100000 in
theorem Dc (slack:Int) (accel:Int) (seconds:Int) (w:World):Calls Tryz.prog 101 #[.int .i64 slack,.int .i64 accel,.int .i64 seconds] w (Ret w (.tuple #[.int .i64 ((Qy slack accel seconds).1),.int .i64 ((Qy slack accel seconds).2)])):=by
 refine Zk (vs:=[.i slack,.i accel,.i seconds]) (w:=w) Tryz.func101 rfl Tryz.ntmps101 rfl (TC.sr (TL.r 2 [] [(6,.i 0),(7,.i 0)] {} (TL.ns (TC.block (TC.sr (TL.r 3 [] [(15,.b (decide (slack<0)))] {} (TL.j 15 (decide (slack<0)) 6 [] [] (fun β=>[(18,.b (β||(decide (slack>409600))))]) Kr {} {} (TL.r 7 [] [(19,.b ((decide (slack<0))||(decide (slack>409600))))] {} (TL.j 19 ((decide (slack<0))||(decide (slack>409600))) 10 [] [] (fun β=>[(22,.b (β||(decide (accel<0))))]) Kr {} {} (TL.r 11 [] [(23,.b (((decide (slack<0))||(decide (slack>409600)))||(decide (accel<0))))] {} (TL.j 23 (((decide (slack<0))||(decide (slack>409600)))||(decide (accel<0))) 14 [] [] (fun β=>[(26,.b (β||(decide (accel>20))))]) Kr {} {} (TL.r 15 [] [(12,.b ((((decide (slack<0))||(decide (slack>409600)))||(decide (accel<0)))||(decide (accel>20))))] {} (TL.next rfl (TC.cond ((((decide (slack<0))||(decide (slack>409600)))||(decide (accel<0)))||(decide (accel>20))) rfl Kr (fun h1=>?_) (fun h1=>?_)))))))))))))))
 ·refine TC.sr (TL.r 2 [] [(6,.i 0),(7,.i 4)] {} (TL.next rfl (TC.ret (TE.rb (TE.rt ?_)))))
  exact TE.ret [] (.tuple #[.i 0,.i 4]) {} (by unfold Qy;refine eS (a:=(0,4)) (fun (z:Int×Int)=>(.tuple #[.i z.1,.i z.2]:Value)) ?_;exact Zj h1 (rfl))
 ·refine TC.sr (TL.r 3 [] [(30,.b (decide (seconds<0)))] {} (TL.j 30 (decide (seconds<0)) 6 [] [] (fun β=>[(33,.b (β||(decide (seconds>600))))]) Kr {} {} (TL.r 7 [] [(27,.b ((decide (seconds<0))||(decide (seconds>600))))] {} (TL.next rfl (TC.cond ((decide (seconds<0))||(decide (seconds>600))) rfl Kr (fun h2=>?_) (fun h2=>?_))))))
  ·refine TC.sr (TL.r 2 [] [(6,.i 0),(7,.i 12)] {} (TL.next rfl (TC.ret (TE.rb (TE.rt ?_)))))
   exact TE.ret [] (.tuple #[.i 0,.i 12]) {} (by unfold Qy;refine eS (a:=(0,12)) (fun (z:Int×Int)=>(.tuple #[.i z.1,.i z.2]:Value)) ?_;exact Zb h1 (Zj h2 (rfl)))
  ·refine TC.sr (TL.r 3 [] [(34,.b (seconds==0))] {} (TL.next rfl (TC.cond (seconds==0) rfl Kr (fun h3=>?_) (fun h3=>?_))))
   ·refine TC.sr (TL.r 2 [] [(6,.i 0),(7,.i 0)] {} (TL.next rfl (TC.ret (TE.rb (TE.rt ?_)))))
    exact TE.ret [] (.tuple #[.i 0,.i 0]) {} (by unfold Qy;refine eS (a:=(0,0)) (fun (z:Int×Int)=>(.tuple #[.i z.1,.i z.2]:Value)) ?_;exact Zb h1 (Zb h2 (Zj h3 (rfl))))
   ·exact TC.skip (TE.nb (TE.nr (TL.r 3 [] [(40,.i (w64 (slack*seconds)))] {} (TL.c 41 (X9 (w64 (slack*seconds)) 16) (fun r1=>.tuple #[.i r1.1,.i r1.2]) (fun w _=>K2 (w64 (slack*seconds)) 16 w) {} (fun r1 hr1=>TL.r 9 [] [(8,.i r1.1)] {} (TL.nr (TL.r 5 [] [(49,.i (w64 ((w64 (accel*seconds))*seconds)))] {} (TL.c 50 (X9 (w64 ((w64 (accel*seconds))*seconds)) 2) (fun r2=>.tuple #[.i r2.1,.i r2.2]) (fun w _=>K2 (w64 ((w64 (accel*seconds))*seconds)) 2 w) {} (fun r2 hr2=>TL.r 11 [] [(10,.i r2.1)] {} (TL.nr (TL.r 6 [] [(6,.i (w64 ((w64 (r1.1+r2.1))+2))),(7,.i 0)] {} (TL.next rfl (TC.ret (TE.ret [] (.tuple #[.i (w64 ((w64 (r1.1+r2.1))+2)),.i 0]) {} (by unfold Qy;refine eS (a:=(w64 ((w64 (r1.1+r2.1))+2),0)) (fun (z:Int×Int)=>(.tuple #[.i z.1,.i z.2]:Value)) ?_;subst hr1 hr2;exact Zb h1 (Zb h2 (Zb h3 (rfl))))))))))))))))))
def ZX (n:Int) (low:Int) (high:Int):Bool :=
 (decide (n<low))||(decide (n>high))
set_option maxRecDepth 100000 in
theorem XS (n:Int) (low:Int) (high:Int) (w:World):Calls Tryz.prog 98 #[.int .i64 n,.int .i64 low,.int .i64 high] w (Ret w (.bool (ZX n low high))):=by
 exact Zk (vs:=[.i n,.i low,.i high]) (w:=w) Tryz.func98 rfl Tryz.ntmps98 rfl (TC.sr (TL.r 1 [] [(6,.b false)] {} (TL.nr (TL.r 4 [] [(10,.b (decide (n<low)))] {} (TL.j 10 (decide (n<low)) 8 [] [] (fun β=>[(14,.b (β||(decide (n>high))))]) Kr {} {} (TL.r 9 [] [(6,.b ((decide (n<low))||(decide (n>high))))] {} (TL.next rfl (TC.ret (TE.ret [] (.b ((decide (n<low))||(decide (n>high)))) {} (by unfold ZX;refine eS (fun z=>(.b z:Value)) ?_;exact rfl))))))))))
def Zu (f:Za):Int :=
 let r1:=YE f.Track
 cond (r1 != 0) (
  r1) (
  let r2:=ZX f.Track.Speed.X (-12800) 12800
  cond r2 (
   4) (
   let r3:=ZX f.Track.Speed.Y (-12800) 12800
   cond r3 (
    4) (
    let r4:=ZX f.Track.Rate (-3200) 3200
    cond r4 (
     4) (
     let r5:=ZX f.Slack 0 409600
     cond (((r5||(decide (f.Track.ID<0)))||(decide (f.Track.Hits<0)))||(decide (f.Track.Misses<0))) (
      4) (
      let r6:=ZX f.Track.State 0 2
      cond r6 (
       1) (
       let r7:=Zz f.Last
       cond (r7 != 0) (
        r7) (
        cond (decide (f.Last.Time>f.Track.Time)) (
         12) (
         0))))))))
set_option maxHeartbeats 4000000 in
set_option maxRecDepth 100000 in
theorem XG (f:Za) (w:World):Calls Tryz.prog 46 #[Za.v f] w (Ret w (.int .i64 (Zu f))):=by
 refine Zk (vs:=[Za.v f]) (w:=w) Tryz.func46 rfl Tryz.ntmps46 rfl (TC.sr (TL.nw 1 (fun b1=>.p0 b1) (fun b1=>Bk b1 (Za.c f) 44) (fun b1=>{}) (fun b1=>TL.r 2 [] [(2,.i 0)] {} (TL.nr (TL.r 2 [0] [(7,Track.v f.Track)] {} (TL.nw 3 (fun b2=>.p0 b2) (fun b2=>Bk b2 (Track.c Track.zero) 40) (fun b2=>{}) (fun b2=>TL.s 0 (Bk b2 (Track.c f.Track) 40) (fun _=>{}) (TL.ns (TC.sr (TL.r 1 [0] [(8,Track.v f.Track)] {} (TL.c 9 (YE f.Track) (fun r1=>.i r1) (fun w _=>Vd f.Track w) {} (fun r1 hr1=>TL.r 3 [] [(4,.i r1)] {} (TL.nr (TL.r 2 [] [(11,.b (r1 != 0))] {} (TL.next rfl (TC.cond (r1 != 0) rfl Kr (fun h1=>?_) (fun h1=>?_)))))))))))))))))
 ·exact TC.sr (TL.r 2 [] [(2,.i r1)] {} (TL.next rfl (TC.ret (TE.rt (TE.ret [] (.i r1) {} (by unfold Zu;refine eS (fun z=>(.i z:Value)) ?_;subst hr1;exact Zj h1 (rfl)))))))
 ·refine TC.sn (TC.seq (TC.sr (TL.r 3 [0] [(15,.i f.Track.Speed.X)] {} (TL.c 16 (ZX f.Track.Speed.X (-12800) 12800) (fun r2=>.b r2) (fun w _=>XS f.Track.Speed.X (-12800) 12800 w) {} (fun r2 hr2=>TL.r 5 [] [(17,.b r2)] {} (TL.split 17 r2 Kr (fun h2=>?_) (fun h2=>?_)))))))
  ·exact TL.r 35 [] [(47,.b true)] {} (TL.next rfl (TC.condT rfl Kr (TC.sr (TL.r 1 [] [(2,.i 4)] {} (TL.next rfl (TC.ret (TE.rt (TE.ret [] (.i 4) {} (by unfold Zu;refine eS (fun z=>(.i z:Value)) ?_;subst hr1 hr2;exact Zb h1 (Zj h2 (rfl)))))))))))
  ·refine TL.r 8 [0] [(20,.i f.Track.Speed.Y)] {} (TL.c 21 (ZX f.Track.Speed.Y (-12800) 12800) (fun r3=>.b r3) (fun w _=>XS f.Track.Speed.Y (-12800) 12800 w) {} (fun r3 hr3=>TL.r 11 [] [(23,.b r3)] {} (TL.split 23 r3 Kr (fun h3=>?_) (fun h3=>?_))))
   ·exact TL.r 35 [] [(47,.b true)] {} (TL.next rfl (TC.condT rfl Kr (TC.sr (TL.r 1 [] [(2,.i 4)] {} (TL.next rfl (TC.ret (TE.rt (TE.ret [] (.i 4) {} (by unfold Zu;refine eS (fun z=>(.i z:Value)) ?_;subst hr1 hr2 hr3;exact Zb h1 (Zb h2 (Zj h3 (rfl))))))))))))
   ·refine TL.r 13 [0] [(25,.i f.Track.Rate)] {} (TL.c 26 (ZX f.Track.Rate (-3200) 3200) (fun r4=>.b r4) (fun w _=>XS f.Track.Rate (-3200) 3200 w) {} (fun r4 hr4=>TL.r 16 [] [(28,.b r4)] {} (TL.split 28 r4 Kr (fun h4=>?_) (fun h4=>?_))))
    ·exact TL.r 35 [] [(47,.b true)] {} (TL.next rfl (TC.condT rfl Kr (TC.sr (TL.r 1 [] [(2,.i 4)] {} (TL.next rfl (TC.ret (TE.rt (TE.ret [] (.i 4) {} (by unfold Zu;refine eS (fun z=>(.i z:Value)) ?_;subst hr1 hr2 hr3 hr4;exact Zb h1 (Zb h2 (Zb h3 (Zj h4 (rfl)))))))))))))
    ·refine TL.r 18 [1] [(30,.i f.Slack)] {} (TL.c 31 (ZX f.Slack 0 409600) (fun r5=>.b r5) (fun w _=>XS f.Slack 0 409600 w) {} (fun r5 hr5=>TL.r 21 [] [(33,.b r5)] {} (TL.j 33 r5 25 [] [0] (fun β=>[(37,.b (β||(decide (f.Track.ID<0))))]) Kr {} {} (TL.r 26 [] [(38,.b (r5||(decide (f.Track.ID<0))))] {} (TL.j 38 (r5||(decide (f.Track.ID<0))) 30 [] [0] (fun β=>[(42,.b (β||(decide (f.Track.Hits<0))))]) Kr {} {} (TL.r 31 [] [(43,.b ((r5||(decide (f.Track.ID<0)))||(decide (f.Track.Hits<0))))] {} (TL.j 43 ((r5||(decide (f.Track.ID<0)))||(decide (f.Track.Hits<0))) 35 [] [0] (fun β=>[(47,.b (β||(decide (f.Track.Misses<0))))]) Kr {} {} (TL.next rfl (TC.cond (((r5||(decide (f.Track.ID<0)))||(decide (f.Track.Hits<0)))||(decide (f.Track.Misses<0))) rfl Kr (fun h5=>?_) (fun h5=>?_))))))))))
     ·exact TC.sr (TL.r 1 [] [(2,.i 4)] {} (TL.next rfl (TC.ret (TE.rt (TE.ret [] (.i 4) {} (by unfold Zu;refine eS (fun z=>(.i z:Value)) ?_;subst hr1 hr2 hr3 hr4 hr5;exact Zb h1 (Zb h2 (Zb h3 (Zb h4 (Zj h5 (rfl)))))))))))
     ·refine TC.sn (TC.seq (TC.sr (TL.r 2 [0] [(49,.i f.Track.State)] {} (TL.c 50 (ZX f.Track.State 0 2) (fun r6=>.b r6) (fun w _=>XS f.Track.State 0 2 w) {} (fun r6 hr6=>TL.next rfl (TC.cond r6 rfl Kr (fun h6=>?_) (fun h6=>?_)))))))
      ·exact TC.sr (TL.r 1 [] [(2,.i 1)] {} (TL.next rfl (TC.ret (TE.rt (TE.ret [] (.i 1) {} (by unfold Zu;refine eS (fun z=>(.i z:Value)) ?_;subst hr1 hr2 hr3 hr4 hr5 hr6;exact Zb h1 (Zb h2 (Zb h3 (Zb h4 (Zb h5 (Zj h6 (rfl))))))))))))
      ·refine TC.sn (TC.seq (TC.sr (TL.r 2 [1] [(52,Zg.v f.Last)] {} (TL.c 53 (Zz f.Last) (fun r7=>.i r7) (fun w _=>Xq f.Last w) {} (fun r7 hr7=>TL.r 4 [] [(5,.i r7)] {} (TL.nr (TL.r 2 [] [(55,.b (r7 != 0))] {} (TL.next rfl (TC.cond (r7 != 0) rfl Kr (fun h7=>?_) (fun h7=>?_))))))))))
       ·exact TC.sr (TL.r 2 [] [(2,.i r7)] {} (TL.next rfl (TC.ret (TE.rt (TE.ret [] (.i r7) {} (by unfold Zu;refine eS (fun z=>(.i z:Value)) ?_;subst hr1 hr2 hr3 hr4 hr5 hr6 hr7;exact Zb h1 (Zb h2 (Zb h3 (Zb h4 (Zb h5 (Zb h6 (Zj h7 (rfl)))))))))))))
       ·refine TC.sn (TC.seq (TC.sr (TL.r 6 [1,0] [(62,.b (decide (f.Last.Time>f.Track.Time)))] {} (TL.next rfl (TC.cond (decide (f.Last.Time>f.Track.Time)) rfl Kr (fun h8=>?_) (fun h8=>?_))))))
        ·exact TC.sr (TL.r 1 [] [(2,.i 12)] {} (TL.next rfl (TC.ret (TE.rt (TE.ret [] (.i 12) {} (by unfold Zu;refine eS (fun z=>(.i z:Value)) ?_;subst hr1 hr2 hr3 hr4 hr5 hr6 hr7;exact Zb h1 (Zb h2 (Zb h3 (Zb h4 (Zb h5 (Zb h6 (Zb h7 (Zj h8 (rfl))))))))))))))
        ·exact TC.snr (TL.r 1 [] [(2,.i 0)] {} (TL.next rfl (TC.ret (TE.ret [] (.i 0) {} (by unfold Zu;refine eS (fun z=>(.i z:Value)) ?_;subst hr1 hr2 hr3 hr4 hr5 hr6 hr7;exact Zb h1 (Zb h2 (Zb h3 (Zb h4 (Zb h5 (Zb h6 (Zb h7 (Zb h8 (rfl)))))))))))))
def Yg (s:Zg):Za×Int :=
 let r1:=Zz s
 cond (r1 != 0) (
  ((⟨⟨0,0,0,⟨0,0⟩,⟨0,0⟩,0,0,0,0,0,0⟩,0,⟨0,⟨0,0⟩,0,0,0⟩⟩:Za),r1)) (
  ((⟨⟨0,0,s.Time,s.At,⟨0,0⟩,s.Height,0,s.Error,s.Code,1,0⟩,6400,s⟩:Za),0))
set_option maxRecDepth 100000 in
theorem WZ (s:Zg) (w:World):Calls Tryz.prog 56 #[Zg.v s] w (Ret w (.tuple #[Za.v ((Yg s).1),.int .i64 ((Yg s).2)])):=by
 refine Zk (vs:=[Zg.v s]) (w:=w) Tryz.func56 rfl Tryz.ntmps56 rfl (TC.sr (TL.nw 1 (fun b1=>.p0 b1) (fun b1=>Bk b1 (Zg.c s) 42) (fun b1=>{}) (fun b1=>TL.nw 2 (fun b2=>.p0 b2) (fun b2=>Bk b2 (Za.c Za.zero) 44) (fun b2=>{}) (fun b2=>TL.r 3 [] [(3,.i 0)] {} (TL.ns (TC.sr (TL.r 1 [1] [(5,Zg.v s)] {} (TL.c 6 (Zz s) (fun r1=>.i r1) (fun w _=>Xq s w) {} (fun r1 hr1=>TL.r 3 [] [(4,.i r1)] {} (TL.nr (TL.r 2 [] [(8,.b (r1 != 0))] {} (TL.next rfl (TC.cond (r1 != 0) rfl Kr (fun h1=>?_) (fun h1=>?_))))))))))))))
 ·exact TC.sr (TL.r 2 [] [(9,Za.v Za.zero),(10,.i r1)] {} (TL.s 0 (Bk b2 (Za.c Za.zero) 44) (fun _=>{}) (TL.r 4 [] [(3,.i r1)] {} (TL.next rfl (TC.ret (TE.rt (TE.ret [0] (.tuple #[Za.v (⟨⟨0,0,0,⟨0,0⟩,⟨0,0⟩,0,0,0,0,0,0⟩,0,⟨0,⟨0,0⟩,0,0,0⟩⟩:Za),.i r1]) {} (by unfold Yg;refine eS (a:=((⟨⟨0,0,0,⟨0,0⟩,⟨0,0⟩,0,0,0,0,0,0⟩,0,⟨0,⟨0,0⟩,0,0,0⟩⟩:Za),r1)) (fun (z:Za×Int)=>(.tuple #[Za.v z.1,.i z.2]:Value)) ?_;subst hr1;exact Zj h1 (rfl)))))))))
 ·exact TC.snr (TL.r 13 [1,1,1,1,1,1] [(23,Za.v (⟨⟨0,0,s.Time,s.At,⟨0,0⟩,s.Height,0,s.Error,s.Code,1,0⟩,6400,s⟩:Za))] {} (TL.s 0 (Bk b2 (Za.c (⟨⟨0,0,s.Time,s.At,⟨0,0⟩,s.Height,0,s.Error,s.Code,1,0⟩,6400,s⟩:Za)) 44) (fun _=>{}) (TL.r 15 [] [(3,.i 0)] {} (TL.next rfl (TC.ret (TE.ret [0] (.tuple #[Za.v (⟨⟨0,0,s.Time,s.At,⟨0,0⟩,s.Height,0,s.Error,s.Code,1,0⟩,6400,s⟩:Za),.i 0]) {} (by unfold Yg;refine eS (a:=((⟨⟨0,0,s.Time,s.At,⟨0,0⟩,s.Height,0,s.Error,s.Code,1,0⟩,6400,s⟩:Za),0)) (fun (z:Za×Int)=>(.tuple #[Za.v z.1,.i z.2]:Value)) ?_;subst hr1;exact Zb h1 (rfl))))))))
def ZT (a:Int) (b_:Int):Int :=
 let r1:=Xr a b_
 r1.1
set_option maxRecDepth 100000 in
theorem QH (a:Int) (b_:Int) (w:World):Calls Tryz.prog 99 #[.int .i64 a,.int .i64 b_] w (Ret w (.int .i64 (ZT a b_))):=by
 exact Zk (vs:=[.i a,.i b_]) (w:=w) Tryz.func99 rfl Tryz.ntmps99 rfl (TC.sr (TL.r 1 [] [(4,.i 0)] {} (TL.nr (TL.r 2 [] [(8,.i a),(9,.i b_)] {} (TL.c 10 (Xr a b_) (fun r1=>.tuple #[.i r1.1,.i r1.2]) (fun w _=>UB a b_ w) {} (fun r1 hr1=>TL.r 8 [] [(5,.i r1.1)] {} (TL.nr (TL.r 2 [] [(4,.i r1.1)] {} (TL.next rfl (TC.ret (TE.ret [] (.i r1.1) {} (by unfold ZT;refine eS (fun z=>(.i z:Value)) ?_;subst hr1;exact rfl))))))))))))
def Qe (a:Int) (b_:Int):Int :=
 let r1:=X9 a b_
 r1.1
set_option maxRecDepth 100000 in
theorem Ua (a:Int) (b_:Int) (w:World):Calls Tryz.prog 112 #[.int .i64 a,.int .i64 b_] w (Ret w (.int .i64 (Qe a b_))):=by
 exact Zk (vs:=[.i a,.i b_]) (w:=w) Tryz.func112 rfl Tryz.ntmps112 rfl (TC.sr (TL.r 1 [] [(4,.i 0)] {} (TL.nr (TL.r 2 [] [(8,.i a),(9,.i b_)] {} (TL.c 10 (X9 a b_) (fun r1=>.tuple #[.i r1.1,.i r1.2]) (fun w _=>K2 a b_ w) {} (fun r1 hr1=>TL.r 8 [] [(5,.i r1.1)] {} (TL.nr (TL.r 2 [] [(4,.i r1.1)] {} (TL.next rfl (TC.ret (TE.ret [] (.i r1.1) {} (by unfold Qe;refine eS (fun z=>(.i z:Value)) ?_;subst hr1;exact rfl))))))))))))
def Zo (f:Za) (time:Int) (accel:Int):Za×Int :=
 let r1:=Zu f
 cond (r1 != 0) (
  ((⟨⟨0,0,0,⟨0,0⟩,⟨0,0⟩,0,0,0,0,0,0⟩,0,⟨0,⟨0,0⟩,0,0,0⟩⟩:Za),r1)) (
  let r2:=ZX time 0 200000
  cond r2 (
   ((⟨⟨0,0,0,⟨0,0⟩,⟨0,0⟩,0,0,0,0,0,0⟩,0,⟨0,⟨0,0⟩,0,0,0⟩⟩:Za),4)) (
   let r3:=ZX accel 0 20
   cond r3 (
    ((⟨⟨0,0,0,⟨0,0⟩,⟨0,0⟩,0,0,0,0,0,0⟩,0,⟨0,⟨0,0⟩,0,0,0⟩⟩:Za),4)) (
    let r4:=ZX (w64 (time-f.Track.Time)) 0 600
    cond r4 (
     ((⟨⟨0,0,0,⟨0,0⟩,⟨0,0⟩,0,0,0,0,0,0⟩,0,⟨0,⟨0,0⟩,0,0,0⟩⟩:Za),12)) (
     cond ((w64 (time-f.Track.Time))==0) (
      (f,0)) (
      let r5:=ZT (w64 (f.Track.Speed.X*(w64 (time-f.Track.Time)))) 16
      let r6:=ZT (w64 (f.Track.Speed.Y*(w64 (time-f.Track.Time)))) 16
      let r7:=Qv f.Track.At (⟨r5,r6⟩:P)
      let r8:=ZT (w64 (f.Track.Rate*(w64 (time-f.Track.Time)))) 16
      let r9:=Xs (w64 (f.Track.Height+r8)) 0 60000
      let r10:=Qy f.Slack accel (w64 (time-f.Track.Time))
      let r11:=Zu (⟨⟨f.Track.ID,f.Track.State,time,r7,f.Track.Speed,r9,f.Track.Rate,w64 (f.Track.Radius+r10.1),f.Track.Code,f.Track.Hits,f.Track.Misses⟩,w64 (f.Slack+(w64 ((w64 (16*accel))*(w64 (time-f.Track.Time))))),f.Last⟩:Za)
      cond (r11 != 0) (
       ((⟨⟨0,0,0,⟨0,0⟩,⟨0,0⟩,0,0,0,0,0,0⟩,0,⟨0,⟨0,0⟩,0,0,0⟩⟩:Za),8)) (
       ((⟨⟨f.Track.ID,f.Track.State,time,r7,f.Track.Speed,r9,f.Track.Rate,w64 (f.Track.Radius+r10.1),f.Track.Code,f.Track.Hits,f.Track.Misses⟩,w64 (f.Slack+(w64 ((w64 (16*accel))*(w64 (time-f.Track.Time))))),f.Last⟩:Za),0)))))))
set_option maxHeartbeats 4000000 in
set_option maxRecDepth 100000 in
theorem QR (f:Za) (time:Int) (accel:Int) (w:World):Calls Tryz.prog 45 #[Za.v f,.int .i64 time,.int .i64 accel] w (Ret w (.tuple #[Za.v ((Zo f time accel).1),.int .i64 ((Zo f time accel).2)])):=by
 refine Zk (vs:=[Za.v f,.i time,.i accel]) (w:=w) Tryz.func45 rfl Tryz.ntmps45 rfl (TC.sr (TL.nw 3 (fun b1=>.p0 b1) (fun b1=>Bk b1 (Za.c f) 44) (fun b1=>{}) (fun b1=>TL.nw 6 (fun b2=>.p0 b2) (fun b2=>Bk b2 (Za.c Za.zero) 44) (fun b2=>{}) (fun b2=>TL.r 3 [] [(7,.i 0)] {} (TL.nr (TL.r 1 [] [(14,Za.v Za.zero)] {} (TL.nw 8 (fun b3=>.p0 b3) (fun b3=>Bk b3 (Za.c Za.zero) 44) (fun b3=>{}) (fun b3=>TL.s 0 (Bk b3 (Za.c Za.zero) 44) (fun _=>{}) (TL.ns (TC.sr (TL.r 1 [2] [(15,Za.v f)] {} (TL.c 16 (Zu f) (fun r1=>.i r1) (fun w _=>XG f w) {} (fun r1 hr1=>TL.r 3 [] [(9,.i r1)] {} (TL.nr (TL.r 2 [] [(18,.b (r1 != 0))] {} (TL.next rfl (TC.cond (r1 != 0) rfl Kr (fun h1=>?_) (fun h1=>?_))))))))))))))))))
 ·exact TC.sr (TL.r 2 [0] [(19,Za.v (⟨⟨0,0,0,⟨0,0⟩,⟨0,0⟩,0,0,0,0,0,0⟩,0,⟨0,⟨0,0⟩,0,0,0⟩⟩:Za)),(20,.i r1)] {} (TL.s 1 (Bk b2 (Za.c Za.zero) 44) (fun _=>{}) (TL.r 4 [] [(7,.i r1)] {} (TL.next rfl (TC.ret (TE.rt (TE.ret [1] (.tuple #[Za.v (⟨⟨0,0,0,⟨0,0⟩,⟨0,0⟩,0,0,0,0,0,0⟩,0,⟨0,⟨0,0⟩,0,0,0⟩⟩:Za),.i r1]) {} (by unfold Zo;refine eS (a:=((⟨⟨0,0,0,⟨0,0⟩,⟨0,0⟩,0,0,0,0,0,0⟩,0,⟨0,⟨0,0⟩,0,0,0⟩⟩:Za),r1)) (fun (z:Za×Int)=>(.tuple #[Za.v z.1,.i z.2]:Value)) ?_;subst hr1;exact Zj h1 (rfl)))))))))
 ·refine TC.snr (TL.r 6 [2] [(10,.i (w64 (time-f.Track.Time)))] {} (TL.ns (TC.block (TC.sr (TL.r 1 [] [(27,.i time)] {} (TL.c 28 (ZX time 0 200000) (fun r2=>.b r2) (fun w _=>XS time 0 200000 w) {} (fun r2 hr2=>TL.r 3 [] [(29,.b r2)] {} (TL.split 29 r2 Kr (fun h2=>?_) (fun h2=>?_)))))))))
  ·refine TL.r 7 [] [(26,.b true)] {} (TL.next rfl (TC.condT rfl Kr (TC.sr (TL.r 1 [0] [(33,Za.v (⟨⟨0,0,0,⟨0,0⟩,⟨0,0⟩,0,0,0,0,0,0⟩,0,⟨0,⟨0,0⟩,0,0,0⟩⟩:Za))] {} (TL.s 1 (Bk b2 (Za.c Za.zero) 44) (fun _=>{}) (TL.r 3 [] [(7,.i 4)] {} (TL.next rfl (TC.ret (TE.rb (TE.rt ?_))))))))))
   exact TE.ret [1] (.tuple #[Za.v (⟨⟨0,0,0,⟨0,0⟩,⟨0,0⟩,0,0,0,0,0,0⟩,0,⟨0,⟨0,0⟩,0,0,0⟩⟩:Za),.i 4]) {} (by unfold Zo;refine eS (a:=((⟨⟨0,0,0,⟨0,0⟩,⟨0,0⟩,0,0,0,0,0,0⟩,0,⟨0,⟨0,0⟩,0,0,0⟩⟩:Za),4)) (fun (z:Za×Int)=>(.tuple #[Za.v z.1,.i z.2]:Value)) ?_;subst hr1 hr2;exact Zb h1 (Zj h2 (rfl)))
  ·refine TL.r 4 [] [(30,.i accel)] {} (TL.c 31 (ZX accel 0 20) (fun r3=>.b r3) (fun w _=>XS accel 0 20 w) {} (fun r3 hr3=>TL.r 7 [] [(26,.b r3)] {} (TL.next rfl (TC.cond r3 rfl Kr (fun h3=>?_) (fun h3=>?_)))))
   ·refine TC.sr (TL.r 1 [0] [(33,Za.v (⟨⟨0,0,0,⟨0,0⟩,⟨0,0⟩,0,0,0,0,0,0⟩,0,⟨0,⟨0,0⟩,0,0,0⟩⟩:Za))] {} (TL.s 1 (Bk b2 (Za.c Za.zero) 44) (fun _=>{}) (TL.r 3 [] [(7,.i 4)] {} (TL.next rfl (TC.ret (TE.rb (TE.rt ?_)))))))
    exact TE.ret [1] (.tuple #[Za.v (⟨⟨0,0,0,⟨0,0⟩,⟨0,0⟩,0,0,0,0,0,0⟩,0,⟨0,⟨0,0⟩,0,0,0⟩⟩:Za),.i 4]) {} (by unfold Zo;refine eS (a:=((⟨⟨0,0,0,⟨0,0⟩,⟨0,0⟩,0,0,0,0,0,0⟩,0,⟨0,⟨0,0⟩,0,0,0⟩⟩:Za),4)) (fun (z:Za×Int)=>(.tuple #[Za.v z.1,.i z.2]:Value)) ?_;subst hr1 hr2 hr3;exact Zb h1 (Zb h2 (Zj h3 (rfl))))
   ·refine TC.sr (TL.r 1 [] [(35,.i (w64 (time-f.Track.Time)))] {} (TL.c 36 (ZX (w64 (time-f.Track.Time)) 0 600) (fun r4=>.b r4) (fun w _=>XS (w64 (time-f.Track.Time)) 0 600 w) {} (fun r4 hr4=>TL.r 3 [] [(34,.b r4)] {} (TL.next rfl (TC.cond r4 rfl Kr (fun h4=>?_) (fun h4=>?_))))))
    ·refine TC.sr (TL.r 1 [0] [(37,Za.v (⟨⟨0,0,0,⟨0,0⟩,⟨0,0⟩,0,0,0,0,0,0⟩,0,⟨0,⟨0,0⟩,0,0,0⟩⟩:Za))] {} (TL.s 1 (Bk b2 (Za.c Za.zero) 44) (fun _=>{}) (TL.r 3 [] [(7,.i 12)] {} (TL.next rfl (TC.ret (TE.rb (TE.rt ?_)))))))
     exact TE.ret [1] (.tuple #[Za.v (⟨⟨0,0,0,⟨0,0⟩,⟨0,0⟩,0,0,0,0,0,0⟩,0,⟨0,⟨0,0⟩,0,0,0⟩⟩:Za),.i 12]) {} (by unfold Zo;refine eS (a:=((⟨⟨0,0,0,⟨0,0⟩,⟨0,0⟩,0,0,0,0,0,0⟩,0,⟨0,⟨0,0⟩,0,0,0⟩⟩:Za),12)) (fun (z:Za×Int)=>(.tuple #[Za.v z.1,.i z.2]:Value)) ?_;subst hr1 hr2 hr3 hr4;exact Zb h1 (Zb h2 (Zb h3 (Zj h4 (rfl)))))
    ·refine TC.sr (TL.r 3 [] [(38,.b ((w64 (time-f.Track.Time))==0))] {} (TL.next rfl (TC.cond ((w64 (time-f.Track.Time))==0) rfl Kr (fun h5=>?_) (fun h5=>?_))))
     ·refine TC.sr (TL.r 1 [2] [(41,Za.v f)] {} (TL.s 1 (Bk b2 (Za.c f) 44) (fun _=>{}) (TL.r 3 [] [(7,.i 0)] {} (TL.next rfl (TC.ret (TE.rb (TE.rt ?_)))))))
      exact TE.ret [1] (.tuple #[Za.v f,.i 0]) {} (by unfold Zo;refine eS (a:=(f,0)) (fun (z:Za×Int)=>(.tuple #[Za.v z.1,.i z.2]:Value)) ?_;subst hr1 hr2 hr3 hr4;exact Zb h1 (Zb h2 (Zb h3 (Zb h4 (Zj h5 (rfl))))))
     ·refine TC.skip (TE.nb (TE.nr (TL.r 2 [] [(11,.p0 b1)] {} (TL.ns (TC.drawTail 25 Kr Kr (TQ.r 12 [2,2] [(43,.p0 b1),(47,P.v f.Track.At),(54,.i (w64 (f.Track.Speed.X*(w64 (time-f.Track.Time)))))] {} (TQ.c 55 (ZT (w64 (f.Track.Speed.X*(w64 (time-f.Track.Time)))) 16) (fun r5=>.i r5) (fun w _=>QH (w64 (f.Track.Speed.X*(w64 (time-f.Track.Time)))) 16 w) rfl {} (fun r5 hr5=>TQ.r 20 [2] [(62,.i (w64 (f.Track.Speed.Y*(w64 (time-f.Track.Time)))))] {} (TQ.c 63 (ZT (w64 (f.Track.Speed.Y*(w64 (time-f.Track.Time)))) 16) (fun r6=>.i r6) (fun w _=>QH (w64 (f.Track.Speed.Y*(w64 (time-f.Track.Time)))) 16 w) rfl {} (fun r6 hr6=>TQ.r 22 [] [(64,P.v (⟨r5,r6⟩:P))] {} (TQ.c 65 (Qv f.Track.At (⟨r5,r6⟩:P)) (fun r7=>P.v r7) (fun w _=>Wq f.Track.At (⟨r5,r6⟩:P) w) rfl {} (fun r7 hr7=>TQ.r 25 [] [(67,.pt b1 3)] {} (TQ.tail rfl (TL.s 2 (Bk b1 (Za.c (⟨⟨f.Track.ID,f.Track.State,f.Track.Time,r7,f.Track.Speed,f.Track.Height,f.Track.Rate,f.Track.Radius,f.Track.Code,f.Track.Hits,f.Track.Misses⟩,f.Slack,f.Last⟩:Za)) 44) (fun _=>{}) (TL.ns (TC.drawTail 16 Kr Kr (TQ.r 11 [2,2] [(68,.p0 b1),(72,.i f.Track.Height),(78,.i (w64 (f.Track.Rate*(w64 (time-f.Track.Time)))))] {} (TQ.c 79 (ZT (w64 (f.Track.Rate*(w64 (time-f.Track.Time)))) 16) (fun r8=>.i r8) (fun w _=>QH (w64 (f.Track.Rate*(w64 (time-f.Track.Time)))) 16 w) rfl {} (fun r8 hr8=>TQ.r 13 [] [(80,.i (w64 (f.Track.Height+r8)))] {} (TQ.c 81 (Xs (w64 (f.Track.Height+r8)) 0 60000) (fun r9=>.i r9) (fun w _=>UC (w64 (f.Track.Height+r8)) 0 60000 w) rfl {} (fun r9 hr9=>TQ.r 16 [] [(83,.pt b1 7)] {} (TQ.tail rfl (TL.s 2 (Bk b1 (Za.c (⟨⟨f.Track.ID,f.Track.State,f.Track.Time,r7,f.Track.Speed,r9,f.Track.Rate,f.Track.Radius,f.Track.Code,f.Track.Hits,f.Track.Misses⟩,f.Slack,f.Last⟩:Za)) 44) (fun _=>{}) (TL.nr (TL.r 4 [2] [(86,.i f.Slack),(87,.i accel),(88,.i (w64 (time-f.Track.Time)))] {} (TL.c 89 (Qy f.Slack accel (w64 (time-f.Track.Time))) (fun r10=>.tuple #[.i r10.1,.i r10.2]) (fun w _=>Dc f.Slack accel (w64 (time-f.Track.Time)) w) {} (fun r10 hr10=>TL.r 10 [] [(12,.i r10.1)] {} (TL.nr (TL.r 8 [2] [(97,.i (w64 (f.Track.Radius+r10.1))),(99,.pt b1 9)] {} (TL.s 2 (Bk b1 (Za.c (⟨⟨f.Track.ID,f.Track.State,f.Track.Time,r7,f.Track.Speed,r9,f.Track.Rate,w64 (f.Track.Radius+r10.1),f.Track.Code,f.Track.Hits,f.Track.Misses⟩,f.Slack,f.Last⟩:Za)) 44) (fun _=>{}) (TL.nr (TL.r 4 [] [(101,.i time),(103,.pt b1 2)] {} (TL.s 2 (Bk b1 (Za.c (⟨⟨f.Track.ID,f.Track.State,time,r7,f.Track.Speed,r9,f.Track.Rate,w64 (f.Track.Radius+r10.1),f.Track.Code,f.Track.Hits,f.Track.Misses⟩,f.Slack,f.Last⟩:Za)) 44) (fun _=>{}) (TL.nr (TL.r 8 [2] [(110,.i (w64 (f.Slack+(w64 ((w64 (16*accel))*(w64 (time-f.Track.Time))))))),(111,.pt b1 13)] {} (TL.s 2 (Bk b1 (Za.c (⟨⟨f.Track.ID,f.Track.State,time,r7,f.Track.Speed,r9,f.Track.Rate,w64 (f.Track.Radius+r10.1),f.Track.Code,f.Track.Hits,f.Track.Misses⟩,w64 (f.Slack+(w64 ((w64 (16*accel))*(w64 (time-f.Track.Time))))),f.Last⟩:Za)) 44) (fun _=>{}) (TL.ns (TC.sr (TL.r 1 [2] [(112,Za.v (⟨⟨f.Track.ID,f.Track.State,time,r7,f.Track.Speed,r9,f.Track.Rate,w64 (f.Track.Radius+r10.1),f.Track.Code,f.Track.Hits,f.Track.Misses⟩,w64 (f.Slack+(w64 ((w64 (16*accel))*(w64 (time-f.Track.Time))))),f.Last⟩:Za))] {} (TL.c 113 (Zu (⟨⟨f.Track.ID,f.Track.State,time,r7,f.Track.Speed,r9,f.Track.Rate,w64 (f.Track.Radius+r10.1),f.Track.Code,f.Track.Hits,f.Track.Misses⟩,w64 (f.Slack+(w64 ((w64 (16*accel))*(w64 (time-f.Track.Time))))),f.Last⟩:Za)) (fun r11=>.i r11) (fun w _=>XG (⟨⟨f.Track.ID,f.Track.State,time,r7,f.Track.Speed,r9,f.Track.Rate,w64 (f.Track.Radius+r10.1),f.Track.Code,f.Track.Hits,f.Track.Misses⟩,w64 (f.Slack+(w64 ((w64 (16*accel))*(w64 (time-f.Track.Time))))),f.Last⟩:Za) w) {} (fun r11 hr11=>TL.r 3 [] [(114,.b (r11 != 0))] {} (TL.next rfl (TC.cond (r11 != 0) rfl Kr (fun h6=>?_) (fun h6=>?_))))))))))))))))))))))))))))))))))))))))))))
      ·exact TC.sr (TL.r 1 [0] [(115,Za.v (⟨⟨0,0,0,⟨0,0⟩,⟨0,0⟩,0,0,0,0,0,0⟩,0,⟨0,⟨0,0⟩,0,0,0⟩⟩:Za))] {} (TL.s 1 (Bk b2 (Za.c Za.zero) 44) (fun _=>{}) (TL.r 3 [] [(7,.i 8)] {} (TL.next rfl (TC.ret (TE.rt (TE.ret [1] (.tuple #[Za.v (⟨⟨0,0,0,⟨0,0⟩,⟨0,0⟩,0,0,0,0,0,0⟩,0,⟨0,⟨0,0⟩,0,0,0⟩⟩:Za),.i 8]) {} (by unfold Zo;refine eS (a:=((⟨⟨0,0,0,⟨0,0⟩,⟨0,0⟩,0,0,0,0,0,0⟩,0,⟨0,⟨0,0⟩,0,0,0⟩⟩:Za),8)) (fun (z:Za×Int)=>(.tuple #[Za.v z.1,.i z.2]:Value)) ?_;subst hr1 hr2 hr3 hr4 hr5 hr6 hr7 hr8 hr9 hr10 hr11;exact Zb h1 (Zb h2 (Zb h3 (Zb h4 (Zb h5 (Zj h6 (rfl))))))))))))))
      ·exact TC.snr (TL.r 1 [2] [(116,Za.v (⟨⟨f.Track.ID,f.Track.State,time,r7,f.Track.Speed,r9,f.Track.Rate,w64 (f.Track.Radius+r10.1),f.Track.Code,f.Track.Hits,f.Track.Misses⟩,w64 (f.Slack+(w64 ((w64 (16*accel))*(w64 (time-f.Track.Time))))),f.Last⟩:Za))] {} (TL.s 1 (Bk b2 (Za.c (⟨⟨f.Track.ID,f.Track.State,time,r7,f.Track.Speed,r9,f.Track.Rate,w64 (f.Track.Radius+r10.1),f.Track.Code,f.Track.Hits,f.Track.Misses⟩,w64 (f.Slack+(w64 ((w64 (16*accel))*(w64 (time-f.Track.Time))))),f.Last⟩:Za)) 44) (fun _=>{}) (TL.r 3 [] [(7,.i 0)] {} (TL.next rfl (TC.ret (TE.ret [1] (.tuple #[Za.v (⟨⟨f.Track.ID,f.Track.State,time,r7,f.Track.Speed,r9,f.Track.Rate,w64 (f.Track.Radius+r10.1),f.Track.Code,f.Track.Hits,f.Track.Misses⟩,w64 (f.Slack+(w64 ((w64 (16*accel))*(w64 (time-f.Track.Time))))),f.Last⟩:Za),.i 0]) {} (by unfold Zo;refine eS (a:=((⟨⟨f.Track.ID,f.Track.State,time,r7,f.Track.Speed,r9,f.Track.Rate,w64 (f.Track.Radius+r10.1),f.Track.Code,f.Track.Hits,f.Track.Misses⟩,w64 (f.Slack+(w64 ((w64 (16*accel))*(w64 (time-f.Track.Time))))),f.Last⟩:Za),0)) (fun (z:Za×Int)=>(.tuple #[Za.v z.1,.i z.2]:Value)) ?_;subst hr1 hr2 hr3 hr4 hr5 hr6 hr7 hr8 hr9 hr10 hr11;exact Zb h1 (Zb h2 (Zb h3 (Zb h4 (Zb h5 (Zb h6 (rfl)))))))))))))
def Xo (a:Int) (b_:Int) (g_:Int):Int :=
 let r1:=ZT (w64 ((w64 (b_-a))*g_)) 256
 w64 (a+r1)
set_option maxRecDepth 100000 in
theorem KA (a:Int) (b_:Int) (g_:Int) (w:World):Calls Tryz.prog 111 #[.int .i64 a,.int .i64 b_,.int .i64 g_] w (Ret w (.int .i64 (Xo a b_ g_))):=by
 exact Zk (vs:=[.i a,.i b_,.i g_]) (w:=w) Tryz.func111 rfl Tryz.ntmps111 rfl (TC.sr (TL.r 1 [] [(6,.i 0)] {} (TL.nr (TL.r 6 [] [(7,.i a),(12,.i (w64 ((w64 (b_-a))*g_)))] {} (TL.c 13 (ZT (w64 ((w64 (b_-a))*g_)) 256) (fun r1=>.i r1) (fun w _=>QH (w64 ((w64 (b_-a))*g_)) 256 w) {} (fun r1 hr1=>TL.r 9 [] [(6,.i (w64 (a+r1)))] {} (TL.next rfl (TC.ret (TE.ret [] (.i (w64 (a+r1))) {} (by unfold Xo;refine eS (fun z=>(.i z:Value)) ?_;subst hr1;exact rfl))))))))))
def ZL (f:Za) (s:Zg) (accel:Int) (place:Int) (speed:Int):Za×Int :=
 let r1:=Zu f
 cond (r1 != 0) (
  ((⟨⟨0,0,0,⟨0,0⟩,⟨0,0⟩,0,0,0,0,0,0⟩,0,⟨0,⟨0,0⟩,0,0,0⟩⟩:Za),r1)) (
  let r2:=Zz s
  cond (r2 != 0) (
   ((⟨⟨0,0,0,⟨0,0⟩,⟨0,0⟩,0,0,0,0,0,0⟩,0,⟨0,⟨0,0⟩,0,0,0⟩⟩:Za),r2)) (
   let r3:=ZX place 0 256
   cond r3 (
    ((⟨⟨0,0,0,⟨0,0⟩,⟨0,0⟩,0,0,0,0,0,0⟩,0,⟨0,⟨0,0⟩,0,0,0⟩⟩:Za),4)) (
    let r4:=ZX speed 0 256
    cond r4 (
     ((⟨⟨0,0,0,⟨0,0⟩,⟨0,0⟩,0,0,0,0,0,0⟩,0,⟨0,⟨0,0⟩,0,0,0⟩⟩:Za),4)) (
     cond (decide ((w64 (s.Time-f.Last.Time))≤0)) (
      ((⟨⟨0,0,0,⟨0,0⟩,⟨0,0⟩,0,0,0,0,0,0⟩,0,⟨0,⟨0,0⟩,0,0,0⟩⟩:Za),12)) (
      let r5:=Zo f s.Time accel
      cond (r5.2 != 0) (
       ((⟨⟨0,0,0,⟨0,0⟩,⟨0,0⟩,0,0,0,0,0,0⟩,0,⟨0,⟨0,0⟩,0,0,0⟩⟩:Za),r5.2)) (
       let r6:=ZV r5.1.Track.At s.At (w64 (r5.1.Track.Radius+s.Error))
       cond (!r6) (
        ((⟨⟨0,0,0,⟨0,0⟩,⟨0,0⟩,0,0,0,0,0,0⟩,0,⟨0,⟨0,0⟩,0,0,0⟩⟩:Za),8)) (
        let r7:=Xo r5.1.Track.At.X s.At.X place
        let r8:=Xo r5.1.Track.At.Y s.At.Y place
        let r9:=Qe (w64 ((w64 ((w64 (256-place))*r5.1.Track.Radius))+(w64 (place*s.Error)))) 256
        let r10:=ZT (w64 (16*(w64 (s.At.X-f.Last.At.X)))) (w64 (s.Time-f.Last.Time))
        let r11:=ZT (w64 (16*(w64 (s.At.Y-f.Last.At.Y)))) (w64 (s.Time-f.Last.Time))
        let r12:=Xo r5.1.Track.Speed.X r10 speed
        let r13:=Xo r5.1.Track.Speed.Y r11 speed
        let r14:=Qe (w64 (16*(w64 (s.Error+f.Last.Error)))) (w64 (s.Time-f.Last.Time))
        let r15:=Qe (w64 ((w64 ((w64 (256-speed))*r5.1.Slack))+(w64 (speed*(w64 ((w64 (r14+(w64 ((w64 (16*accel))*(w64 (s.Time-f.Last.Time))))))+2)))))) 256
        let r16:=ZT (w64 (16*(w64 (s.Height-f.Last.Height)))) (w64 (s.Time-f.Last.Time))
        let r17:=Xs r16 (-3200) 3200
        cond (s.Code != (-1)) (
         let r18:=Zu (⟨⟨r5.1.Track.ID,r5.1.Track.State,r5.1.Track.Time,⟨r7,r8⟩,⟨r12,r13⟩,s.Height,r17,w64 (r9+2),s.Code,w64 (r5.1.Track.Hits+1),0⟩,w64 (r15+2),s⟩:Za)
         cond (r18 != 0) (
          ((⟨⟨0,0,0,⟨0,0⟩,⟨0,0⟩,0,0,0,0,0,0⟩,0,⟨0,⟨0,0⟩,0,0,0⟩⟩:Za),8)) (
          ((⟨⟨r5.1.Track.ID,r5.1.Track.State,r5.1.Track.Time,⟨r7,r8⟩,⟨r12,r13⟩,s.Height,r17,w64 (r9+2),s.Code,w64 (r5.1.Track.Hits+1),0⟩,w64 (r15+2),s⟩:Za),0))) (
         let r19:=Zu (⟨⟨r5.1.Track.ID,r5.1.Track.State,r5.1.Track.Time,⟨r7,r8⟩,⟨r12,r13⟩,s.Height,r17,w64 (r9+2),r5.1.Track.Code,w64 (r5.1.Track.Hits+1),0⟩,w64 (r15+2),s⟩:Za)
         cond (r19 != 0) (
          ((⟨⟨0,0,0,⟨0,0⟩,⟨0,0⟩,0,0,0,0,0,0⟩,0,⟨0,⟨0,0⟩,0,0,0⟩⟩:Za),8)) (
          ((⟨⟨r5.1.Track.ID,r5.1.Track.State,r5.1.Track.Time,⟨r7,r8⟩,⟨r12,r13⟩,s.Height,r17,w64 (r9+2),r5.1.Track.Code,w64 (r5.1.Track.Hits+1),0⟩,w64 (r15+2),s⟩:Za),0))))))))))
set_option maxHeartbeats 4000000 in
set_option maxRecDepth 100000 in
theorem W1 (f:Za) (s:Zg) (accel:Int) (place:Int) (speed:Int) (w:World):Calls Tryz.prog 53 #[Za.v f,Zg.v s,.int .i64 accel,.int .i64 place,.int .i64 speed] w (Ret w (.tuple #[Za.v ((ZL f s accel place speed).1),.int .i64 ((ZL f s accel place speed).2)])):=by
 refine Zk (vs:=[Za.v f,Zg.v s,.i accel,.i place,.i speed]) (w:=w) Tryz.func53 rfl Tryz.ntmps53 rfl (TC.sr (TL.nw 5 (fun b1=>.p0 b1) (fun b1=>Bk b1 (Za.c f) 44) (fun b1=>{}) (fun b1=>TL.nw 6 (fun b2=>.p0 b2) (fun b2=>Bk b2 (Zg.c s) 42) (fun b2=>{}) (fun b2=>TL.nw 10 (fun b3=>.p0 b3) (fun b3=>Bk b3 (Za.c Za.zero) 44) (fun b3=>{}) (fun b3=>TL.r 4 [] [(11,.i 0)] {} (TL.nr (TL.r 1 [] [(22,Za.v Za.zero)] {} (TL.nw 12 (fun b4=>.p0 b4) (fun b4=>Bk b4 (Za.c Za.zero) 44) (fun b4=>{}) (fun b4=>TL.s 0 (Bk b4 (Za.c Za.zero) 44) (fun _=>{}) (TL.ns (TC.sr (TL.r 1 [3] [(23,Za.v f)] {} (TL.c 24 (Zu f) (fun r1=>.i r1) (fun w _=>XG f w) {} (fun r1 hr1=>TL.r 3 [] [(13,.i r1)] {} (TL.nr (TL.r 2 [] [(26,.b (r1 != 0))] {} (TL.next rfl (TC.cond (r1 != 0) rfl Kr (fun h1=>?_) (fun h1=>?_)))))))))))))))))))
 ·exact TC.sr (TL.r 2 [0] [(27,Za.v (⟨⟨0,0,0,⟨0,0⟩,⟨0,0⟩,0,0,0,0,0,0⟩,0,⟨0,⟨0,0⟩,0,0,0⟩⟩:Za)),(28,.i r1)] {} (TL.s 1 (Bk b3 (Za.c Za.zero) 44) (fun _=>{}) (TL.r 4 [] [(11,.i r1)] {} (TL.next rfl (TC.ret (TE.rt (TE.ret [1] (.tuple #[Za.v (⟨⟨0,0,0,⟨0,0⟩,⟨0,0⟩,0,0,0,0,0,0⟩,0,⟨0,⟨0,0⟩,0,0,0⟩⟩:Za),.i r1]) {} (by unfold ZL;refine eS (a:=((⟨⟨0,0,0,⟨0,0⟩,⟨0,0⟩,0,0,0,0,0,0⟩,0,⟨0,⟨0,0⟩,0,0,0⟩⟩:Za),r1)) (fun (z:Za×Int)=>(.tuple #[Za.v z.1,.i z.2]:Value)) ?_;subst hr1;exact Zj h1 (rfl)))))))))
 ·refine TC.sn (TC.seq (TC.sr (TL.r 1 [2] [(29,Zg.v s)] {} (TL.c 30 (Zz s) (fun r2=>.i r2) (fun w _=>Xq s w) {} (fun r2 hr2=>TL.r 3 [] [(14,.i r2)] {} (TL.nr (TL.r 2 [] [(32,.b (r2 != 0))] {} (TL.next rfl (TC.cond (r2 != 0) rfl Kr (fun h2=>?_) (fun h2=>?_))))))))))
  ·exact TC.sr (TL.r 2 [0] [(33,Za.v (⟨⟨0,0,0,⟨0,0⟩,⟨0,0⟩,0,0,0,0,0,0⟩,0,⟨0,⟨0,0⟩,0,0,0⟩⟩:Za)),(34,.i r2)] {} (TL.s 1 (Bk b3 (Za.c Za.zero) 44) (fun _=>{}) (TL.r 4 [] [(11,.i r2)] {} (TL.next rfl (TC.ret (TE.rt (TE.ret [1] (.tuple #[Za.v (⟨⟨0,0,0,⟨0,0⟩,⟨0,0⟩,0,0,0,0,0,0⟩,0,⟨0,⟨0,0⟩,0,0,0⟩⟩:Za),.i r2]) {} (by unfold ZL;refine eS (a:=((⟨⟨0,0,0,⟨0,0⟩,⟨0,0⟩,0,0,0,0,0,0⟩,0,⟨0,⟨0,0⟩,0,0,0⟩⟩:Za),r2)) (fun (z:Za×Int)=>(.tuple #[Za.v z.1,.i z.2]:Value)) ?_;subst hr1 hr2;exact Zb h1 (Zj h2 (rfl))))))))))
  ·refine TC.snr (TL.r 7 [2,3] [(15,.i (w64 (s.Time-f.Last.Time)))] {} (TL.ns (TC.block (TC.sr (TL.r 1 [] [(42,.i place)] {} (TL.c 43 (ZX place 0 256) (fun r3=>.b r3) (fun w _=>XS place 0 256 w) {} (fun r3 hr3=>TL.r 3 [] [(44,.b r3)] {} (TL.split 44 r3 Kr (fun h3=>?_) (fun h3=>?_)))))))))
   ·refine TL.r 7 [] [(41,.b true)] {} (TL.next rfl (TC.condT rfl Kr (TC.sr (TL.r 1 [0] [(48,Za.v (⟨⟨0,0,0,⟨0,0⟩,⟨0,0⟩,0,0,0,0,0,0⟩,0,⟨0,⟨0,0⟩,0,0,0⟩⟩:Za))] {} (TL.s 1 (Bk b3 (Za.c Za.zero) 44) (fun _=>{}) (TL.r 3 [] [(11,.i 4)] {} (TL.next rfl (TC.ret (TE.rb (TE.rt ?_))))))))))
    exact TE.ret [1] (.tuple #[Za.v (⟨⟨0,0,0,⟨0,0⟩,⟨0,0⟩,0,0,0,0,0,0⟩,0,⟨0,⟨0,0⟩,0,0,0⟩⟩:Za),.i 4]) {} (by unfold ZL;refine eS (a:=((⟨⟨0,0,0,⟨0,0⟩,⟨0,0⟩,0,0,0,0,0,0⟩,0,⟨0,⟨0,0⟩,0,0,0⟩⟩:Za),4)) (fun (z:Za×Int)=>(.tuple #[Za.v z.1,.i z.2]:Value)) ?_;subst hr1 hr2 hr3;exact Zb h1 (Zb h2 (Zj h3 (rfl))))
   ·refine TL.r 4 [] [(45,.i speed)] {} (TL.c 46 (ZX speed 0 256) (fun r4=>.b r4) (fun w _=>XS speed 0 256 w) {} (fun r4 hr4=>TL.r 7 [] [(41,.b r4)] {} (TL.next rfl (TC.cond r4 rfl Kr (fun h4=>?_) (fun h4=>?_)))))
    ·refine TC.sr (TL.r 1 [0] [(48,Za.v (⟨⟨0,0,0,⟨0,0⟩,⟨0,0⟩,0,0,0,0,0,0⟩,0,⟨0,⟨0,0⟩,0,0,0⟩⟩:Za))] {} (TL.s 1 (Bk b3 (Za.c Za.zero) 44) (fun _=>{}) (TL.r 3 [] [(11,.i 4)] {} (TL.next rfl (TC.ret (TE.rb (TE.rt ?_)))))))
     exact TE.ret [1] (.tuple #[Za.v (⟨⟨0,0,0,⟨0,0⟩,⟨0,0⟩,0,0,0,0,0,0⟩,0,⟨0,⟨0,0⟩,0,0,0⟩⟩:Za),.i 4]) {} (by unfold ZL;refine eS (a:=((⟨⟨0,0,0,⟨0,0⟩,⟨0,0⟩,0,0,0,0,0,0⟩,0,⟨0,⟨0,0⟩,0,0,0⟩⟩:Za),4)) (fun (z:Za×Int)=>(.tuple #[Za.v z.1,.i z.2]:Value)) ?_;subst hr1 hr2 hr3 hr4;exact Zb h1 (Zb h2 (Zb h3 (Zj h4 (rfl)))))
    ·refine TC.sr (TL.r 3 [] [(49,.b (decide ((w64 (s.Time-f.Last.Time))≤0)))] {} (TL.next rfl (TC.cond (decide ((w64 (s.Time-f.Last.Time))≤0)) rfl Kr (fun h5=>?_) (fun h5=>?_))))
     ·refine TC.sr (TL.r 1 [0] [(52,Za.v (⟨⟨0,0,0,⟨0,0⟩,⟨0,0⟩,0,0,0,0,0,0⟩,0,⟨0,⟨0,0⟩,0,0,0⟩⟩:Za))] {} (TL.s 1 (Bk b3 (Za.c Za.zero) 44) (fun _=>{}) (TL.r 3 [] [(11,.i 12)] {} (TL.next rfl (TC.ret (TE.rb (TE.rt ?_)))))))
      exact TE.ret [1] (.tuple #[Za.v (⟨⟨0,0,0,⟨0,0⟩,⟨0,0⟩,0,0,0,0,0,0⟩,0,⟨0,⟨0,0⟩,0,0,0⟩⟩:Za),.i 12]) {} (by unfold ZL;refine eS (a:=((⟨⟨0,0,0,⟨0,0⟩,⟨0,0⟩,0,0,0,0,0,0⟩,0,⟨0,⟨0,0⟩,0,0,0⟩⟩:Za),12)) (fun (z:Za×Int)=>(.tuple #[Za.v z.1,.i z.2]:Value)) ?_;subst hr1 hr2 hr3 hr4;exact Zb h1 (Zb h2 (Zb h3 (Zb h4 (Zj h5 (rfl))))))
     ·refine TC.skip (TE.nb (TE.nr (TL.r 4 [3,2] [(54,Za.v f),(56,.i s.Time),(57,.i accel)] {} (TL.c 58 (Zo f s.Time accel) (fun r5=>.tuple #[Za.v r5.1,.i r5.2]) (fun w _=>QR f s.Time accel w) {} (fun r5 hr5=>TL.r 8 [] [(59,Za.v r5.1),(60,.i r5.2)] {} (TL.nw 16 (fun b5=>.p0 b5) (fun b5=>Bk b5 (Za.c Za.zero) 44) (fun b5=>{}) (fun b5=>TL.s 0 (Bk b5 (Za.c r5.1) 44) (fun _=>{}) (TL.r 11 [] [(17,.i r5.2)] {} (TL.ns (TC.sr (TL.r 2 [] [(62,.b (r5.2 != 0))] {} (TL.next rfl (TC.cond (r5.2 != 0) rfl Kr (fun h6=>?_) (fun h6=>?_))))))))))))))
      ·exact TC.sr (TL.r 2 [1] [(63,Za.v (⟨⟨0,0,0,⟨0,0⟩,⟨0,0⟩,0,0,0,0,0,0⟩,0,⟨0,⟨0,0⟩,0,0,0⟩⟩:Za)),(64,.i r5.2)] {} (TL.s 2 (Bk b3 (Za.c Za.zero) 44) (fun _=>{}) (TL.r 4 [] [(11,.i r5.2)] {} (TL.next rfl (TC.ret (TE.rt (TE.ret [2] (.tuple #[Za.v (⟨⟨0,0,0,⟨0,0⟩,⟨0,0⟩,0,0,0,0,0,0⟩,0,⟨0,⟨0,0⟩,0,0,0⟩⟩:Za),.i r5.2]) {} (by unfold ZL;refine eS (a:=((⟨⟨0,0,0,⟨0,0⟩,⟨0,0⟩,0,0,0,0,0,0⟩,0,⟨0,⟨0,0⟩,0,0,0⟩⟩:Za),r5.2)) (fun (z:Za×Int)=>(.tuple #[Za.v z.1,.i z.2]:Value)) ?_;subst hr1 hr2 hr3 hr4 hr5;exact Zb h1 (Zb h2 (Zb h3 (Zb h4 (Zb h5 (Zj h6 (rfl))))))))))))))
      ·refine TC.sn (TC.seq (TC.sr (TL.r 11 [0,3,0,3] [(67,P.v r5.1.Track.At),(69,P.v s.At),(75,.i (w64 (r5.1.Track.Radius+s.Error)))] {} (TL.c 76 (ZV r5.1.Track.At s.At (w64 (r5.1.Track.Radius+s.Error))) (fun r6=>.b r6) (fun w _=>Jp r5.1.Track.At s.At (w64 (r5.1.Track.Radius+s.Error)) w) {} (fun r6 hr6=>TL.r 13 [] [(77,.b (!r6))] {} (TL.next rfl (TC.cond (!r6) rfl Kr (fun h7=>?_) (fun h7=>?_))))))))
       ·exact TC.sr (TL.r 1 [1] [(78,Za.v (⟨⟨0,0,0,⟨0,0⟩,⟨0,0⟩,0,0,0,0,0,0⟩,0,⟨0,⟨0,0⟩,0,0,0⟩⟩:Za))] {} (TL.s 2 (Bk b3 (Za.c Za.zero) 44) (fun _=>{}) (TL.r 3 [] [(11,.i 8)] {} (TL.next rfl (TC.ret (TE.rt (TE.ret [2] (.tuple #[Za.v (⟨⟨0,0,0,⟨0,0⟩,⟨0,0⟩,0,0,0,0,0,0⟩,0,⟨0,⟨0,0⟩,0,0,0⟩⟩:Za),.i 8]) {} (by unfold ZL;refine eS (a:=((⟨⟨0,0,0,⟨0,0⟩,⟨0,0⟩,0,0,0,0,0,0⟩,0,⟨0,⟨0,0⟩,0,0,0⟩⟩:Za),8)) (fun (z:Za×Int)=>(.tuple #[Za.v z.1,.i z.2]:Value)) ?_;subst hr1 hr2 hr3 hr4 hr5 hr6;exact Zb h1 (Zb h2 (Zb h3 (Zb h4 (Zb h5 (Zb h6 (Zj h7 (rfl)))))))))))))))
       ·refine TC.snr (TL.r 1 [0] [(79,Za.v r5.1)] {} (TL.nw 18 (fun b6=>.p0 b6) (fun b6=>Bk b6 (Za.c Za.zero) 44) (fun b6=>{}) (fun b6=>TL.s 0 (Bk b6 (Za.c r5.1) 44) (fun _=>{}) (TL.nr (TL.r 2 [] [(19,.p0 b6)] {} (TL.ns (TC.drawTail 22 Kr Kr (TQ.r 9 [1,4] [(81,.p0 b6),(85,.i r5.1.Track.At.X),(88,.i s.At.X),(89,.i place)] {} (TQ.c 90 (Xo r5.1.Track.At.X s.At.X place) (fun r7=>.i r7) (fun w _=>KA r5.1.Track.At.X s.At.X place w) rfl {} (fun r7 hr7=>TQ.r 18 [1,4] [(94,.i r5.1.Track.At.Y),(97,.i s.At.Y),(98,.i place)] {} (TQ.c 99 (Xo r5.1.Track.At.Y s.At.Y place) (fun r8=>.i r8) (fun w _=>KA r5.1.Track.At.Y s.At.Y place w) rfl {} (fun r8 hr8=>TQ.r 22 [] [(100,P.v (⟨r7,r8⟩:P)),(102,.pt b6 3)] {} (TQ.tail rfl (TL.s 0 (Bk b6 (Za.c (⟨⟨r5.1.Track.ID,r5.1.Track.State,r5.1.Track.Time,⟨r7,r8⟩,r5.1.Track.Speed,r5.1.Track.Height,r5.1.Track.Rate,r5.1.Track.Radius,r5.1.Track.Code,r5.1.Track.Hits,r5.1.Track.Misses⟩,r5.1.Slack,r5.1.Last⟩:Za)) 44) (fun _=>{}) (TL.nr (TL.r 12 [1,4] [(103,.p0 b6),(114,.i (w64 ((w64 ((w64 (256-place))*r5.1.Track.Radius))+(w64 (place*s.Error)))))] {} (TL.c 115 (Qe (w64 ((w64 ((w64 (256-place))*r5.1.Track.Radius))+(w64 (place*s.Error)))) 256) (fun r9=>.i r9) (fun w _=>Ua (w64 ((w64 ((w64 (256-place))*r5.1.Track.Radius))+(w64 (place*s.Error)))) 256 w) {} (fun r9 hr9=>TL.r 16 [] [(116,.i (w64 (r9+2))),(118,.pt b6 9)] {} (TL.s 0 (Bk b6 (Za.c (⟨⟨r5.1.Track.ID,r5.1.Track.State,r5.1.Track.Time,⟨r7,r8⟩,r5.1.Track.Speed,r5.1.Track.Height,r5.1.Track.Rate,w64 (r9+2),r5.1.Track.Code,r5.1.Track.Hits,r5.1.Track.Misses⟩,r5.1.Slack,r5.1.Last⟩:Za)) 44) (fun _=>{}) (TL.ns ?_))))))))))))))))))))
        obtain⟨r10,hr10⟩:∃ r,ZT (w64 (16*(w64 (s.At.X-f.Last.At.X)))) (w64 (s.Time-f.Last.Time))=r:=⟨_,rfl⟩
        obtain⟨r11,hr11⟩:∃ r,ZT (w64 (16*(w64 (s.At.Y-f.Last.At.Y)))) (w64 (s.Time-f.Last.Time))=r:=⟨_,rfl⟩
        let Mr22_:Mem:=[Bk b6 (Za.c (⟨⟨r5.1.Track.ID,r5.1.Track.State,r5.1.Track.Time,⟨r7,r8⟩,r5.1.Track.Speed,r5.1.Track.Height,r5.1.Track.Rate,w64 (r9+2),r5.1.Track.Code,r5.1.Track.Hits,r5.1.Track.Misses⟩,r5.1.Slack,r5.1.Last⟩:Za)) 44,Bk b5 (Za.c r5.1) 44,Bk b4 (Za.c Za.zero) 44,Bk b3 (Za.c Za.zero) 44,Bk b2 (Zg.c s) 42,Bk b1 (Za.c f) 44]
        refine TC.plan (G:=Nat) (base:=[(2,.i accel),(4,.i speed),(5,.p0 b1),(6,.p0 b2),(10,.p0 b3),(12,.p0 b4),(15,.i (w64 (s.Time-f.Last.Time))),(16,.p0 b5),(18,.p0 b6),(19,.p0 b6)]) (vals:=fun γ=>[.pt b2 1,.pt b2 1,.i s.At.X,.pt b1 14,.pt b1 15,.pt b1 15,.i f.Last.At.X,.i (w64 (s.At.X-f.Last.At.X)),.i (w64 (16*(w64 (s.At.X-f.Last.At.X)))),.i (w64 (s.Time-f.Last.Time)),.i r10,.pt b2 1,.pt b2 2,.i s.At.Y,.pt b1 14,.pt b1 15,.pt b1 16,.i f.Last.At.Y,.i (w64 (s.At.Y-f.Last.At.Y)),.i (w64 (16*(w64 (s.At.Y-f.Last.At.Y)))),.i (w64 (s.Time-f.Last.Time)),.i r11,P.v (⟨r10,r11⟩:P),.p0 γ,undef]) (writes:=[23,24]) (mem:=fun bs γ=>match bs with | [x23_,x24_]=>(bif x24_ then [Bk γ (P.c (⟨r10,r11⟩:P)) 36] else bif x23_ then [Bk γ (P.c P.zero) 36] else [])++(Mr22_)|_=>[]) (0) (fun γ=>[(2,.i accel),(4,.i speed),(5,.p0 b1),(6,.p0 b2),(10,.p0 b3),(12,.p0 b4),(15,.i (w64 (s.Time-f.Last.Time))),(16,.p0 b5),(18,.p0 b6),(19,.p0 b6),(20,.p0 γ)]) Kr Kr Kr Kr Kr (fun γ=>Kr) (fun _ hM=>hM) (fun γ=>Kr) ?_ ?_
        ·skip
         exact Steps.run (i:=0) 10 [0,0,4,0,0,0,5,0,0,0] Mr22_ Kr Kr (fun S (γ:Nat) w hM=>by rw[mS2 rfl rfl] at hM;exact hM.sub (Zl (List.Sublist.refl _))) Kr (fun (γ:Nat)=>{}) (Steps.call (i:=10) 99 (fun (γ:Nat)=>#[.i (w64 (16*(w64 (s.At.X-f.Last.At.X)))),.i (w64 (s.Time-f.Last.Time))]) (some 129) (fun (γ:Nat)=>.i r10) (fun (γ:Nat)=>[Bk b6 (Za.c (⟨⟨r5.1.Track.ID,r5.1.Track.State,r5.1.Track.Time,⟨r7,r8⟩,r5.1.Track.Speed,r5.1.Track.Height,r5.1.Track.Rate,w64 (r9+2),r5.1.Track.Code,r5.1.Track.Hits,r5.1.Track.Misses⟩,r5.1.Slack,r5.1.Last⟩:Za)) 44,Bk b5 (Za.c r5.1) 44,Bk b4 (Za.c Za.zero) 44,Bk b3 (Za.c Za.zero) 44,Bk b2 (Zg.c s) 42,Bk b1 (Za.c f) 44]) Kr (fun S (γ:Nat) w _ hM=>by rw[mS2 rfl rfl] at hM;exact hM.sub (Zl (List.Sublist.refl _))) (fun (γ:Nat) w _=>by have h:=QH (w64 (16*(w64 (s.At.X-f.Last.At.X)))) (w64 (s.Time-f.Last.Time)) w;rw[hr10] at h;exact h) (fun (γ:Nat)=>Kr) (fun (γ:Nat)=>Kr) (Steps.run (i:=11) 21 [0,0,4,0,0,0,5,0,0,0] Mr22_ Kr Kr (fun S (γ:Nat) w hM=>by rw[mS2 rfl rfl] at hM;exact hM.sub (Zl (List.Sublist.refl _))) Kr (fun (γ:Nat)=>{}) (Steps.call (i:=21) 99 (fun (γ:Nat)=>#[.i (w64 (16*(w64 (s.At.Y-f.Last.At.Y)))),.i (w64 (s.Time-f.Last.Time))]) (some 140) (fun (γ:Nat)=>.i r11) (fun (γ:Nat)=>[Bk b6 (Za.c (⟨⟨r5.1.Track.ID,r5.1.Track.State,r5.1.Track.Time,⟨r7,r8⟩,r5.1.Track.Speed,r5.1.Track.Height,r5.1.Track.Rate,w64 (r9+2),r5.1.Track.Code,r5.1.Track.Hits,r5.1.Track.Misses⟩,r5.1.Slack,r5.1.Last⟩:Za)) 44,Bk b5 (Za.c r5.1) 44,Bk b4 (Za.c Za.zero) 44,Bk b3 (Za.c Za.zero) 44,Bk b2 (Zg.c s) 42,Bk b1 (Za.c f) 44]) Kr (fun S (γ:Nat) w _ hM=>by rw[mS2 rfl rfl] at hM;exact hM.sub (Zl (List.Sublist.refl _))) (fun (γ:Nat) w _=>by have h:=QH (w64 (16*(w64 (s.At.Y-f.Last.At.Y)))) (w64 (s.Time-f.Last.Time)) w;rw[hr11] at h;exact h) (fun (γ:Nat)=>Kr) (fun (γ:Nat)=>Kr) (Steps.run (i:=22) 23 [0] Mr22_ Kr Kr (fun S (γ:Nat) w hM=>by rw[mS2 rfl rfl] at hM;exact hM.sub (Zl (List.Sublist.refl _))) Kr (fun (γ:Nat)=>{}) (Steps.op (i:=23) (Γ:=Nat) (fun g (γ:Nat)=>g) (fun _=>[]) (fun b (γ:Nat)=>[Bk b (P.c P.zero) 36]) (fun S (γ:Nat)=>Mr22_) [23,24] (fun (γ:Nat)=>sV (Instr.alloc 36 true (.tuple #[]))) (some 20) (fun b (γ:Nat)=>.p0 b) (fun S (γ:Nat) hj hd hl=>by rw[mS2 hj (hl 24 Kr)];exact List.Perm.refl _) (fun S (γ:Nat) g hl=>by rw[mS2 (S:=upS S 23) (a0:=23) (a1:=24) rfl (hl 24 Kr)];exact(List.Perm.refl _).symm) (fun (γ:Nat) M' w hM=>Qd (v:=fun b=>.p0 b) (fun b M=>Kr) M' w hM) (fun (γ:Nat)=>Kr) (fun (γ:Nat) g=>Kr) Kr (fun (γ:Nat) g=>Kr) (Steps.put (i:=24) (fun (γ:Nat)=>[Bk γ (P.c P.zero) 36]) (fun (γ:Nat)=>[Bk γ (P.c (⟨r10,r11⟩:P)) 36]) (fun S (γ:Nat)=>Mr22_) (fun (γ:Nat)=>sU (Instr.storeAt 36 (.p0 γ) (P.v (⟨r10,r11⟩:P)))) none (fun S (γ:Nat) hj hd hl=>by rw[mS2 (hd 23 Kr) hj];exact List.Perm.refl _) (fun S (γ:Nat) _=>(List.Perm.refl _).symm) (fun (γ:Nat) M' w hM=>QD (fun b M=>Kr) (fun b M=>Kr) M' w hM) (fun (γ:Nat)=>Kr) (fun (γ:Nat)=>Kr) (Steps.done Kr)))))))
        ·rintro b7
         refine TE.conv [Bk b7 (P.c (⟨r10,r11⟩:P)) 36,Bk b6 (Za.c (⟨⟨r5.1.Track.ID,r5.1.Track.State,r5.1.Track.Time,⟨r7,r8⟩,r5.1.Track.Speed,r5.1.Track.Height,r5.1.Track.Rate,w64 (r9+2),r5.1.Track.Code,r5.1.Track.Hits,r5.1.Track.Misses⟩,r5.1.Slack,r5.1.Last⟩:Za)) 44,Bk b5 (Za.c r5.1) 44,Bk b4 (Za.c Za.zero) 44,Bk b3 (Za.c Za.zero) 44,Bk b2 (Zg.c s) 42,Bk b1 (Za.c f) 44] (fun _ hM=>hM) (TE.next (TC.seq (TC.drawTail 20 Kr Kr (TQ.r 8 [2,0] [(142,.p0 b6),(146,.i r5.1.Track.Speed.X),(148,.i r10),(149,.i speed)] {} (TQ.c 150 (Xo r5.1.Track.Speed.X r10 speed) (fun r12=>.i r12) (fun w _=>KA r5.1.Track.Speed.X r10 speed w) rfl {} (fun r12 hr12=>TQ.r 16 [2,0] [(154,.i r5.1.Track.Speed.Y),(156,.i r11),(157,.i speed)] {} (TQ.c 158 (Xo r5.1.Track.Speed.Y r11 speed) (fun r13=>.i r13) (fun w _=>KA r5.1.Track.Speed.Y r11 speed w) rfl {} (fun r13 hr13=>TQ.r 20 [] [(159,P.v (⟨r12,r13⟩:P)),(161,.pt b6 5)] {} (TQ.tail rfl (TL.s 1 (Bk b6 (Za.c (⟨⟨r5.1.Track.ID,r5.1.Track.State,r5.1.Track.Time,⟨r7,r8⟩,⟨r12,r13⟩,r5.1.Track.Height,r5.1.Track.Rate,w64 (r9+2),r5.1.Track.Code,r5.1.Track.Hits,r5.1.Track.Misses⟩,r5.1.Slack,r5.1.Last⟩:Za)) 44) (fun _=>{}) (TL.nr (TL.r 8 [5,6] [(168,.i (w64 (16*(w64 (s.Error+f.Last.Error))))),(169,.i (w64 (s.Time-f.Last.Time)))] {} (TL.c 170 (Qe (w64 (16*(w64 (s.Error+f.Last.Error)))) (w64 (s.Time-f.Last.Time))) (fun r14=>.i r14) (fun w _=>Ua (w64 (16*(w64 (s.Error+f.Last.Error)))) (w64 (s.Time-f.Last.Time)) w) {} (fun r14 hr14=>TL.r 16 [] [(21,.i (w64 ((w64 (r14+(w64 ((w64 (16*accel))*(w64 (s.Time-f.Last.Time))))))+2)))] {} (TL.nr (TL.r 9 [2] [(185,.i (w64 ((w64 ((w64 (256-speed))*r5.1.Slack))+(w64 (speed*(w64 ((w64 (r14+(w64 ((w64 (16*accel))*(w64 (s.Time-f.Last.Time))))))+2)))))))] {} (TL.c 186 (Qe (w64 ((w64 ((w64 (256-speed))*r5.1.Slack))+(w64 (speed*(w64 ((w64 (r14+(w64 ((w64 (16*accel))*(w64 (s.Time-f.Last.Time))))))+2)))))) 256) (fun r15=>.i r15) (fun w _=>Ua (w64 ((w64 ((w64 (256-speed))*r5.1.Slack))+(w64 (speed*(w64 ((w64 (r14+(w64 ((w64 (16*accel))*(w64 (s.Time-f.Last.Time))))))+2)))))) 256 w) {} (fun r15 hr15=>TL.r 12 [] [(187,.i (w64 (r15+2))),(188,.pt b6 13)] {} (TL.s 1 (Bk b6 (Za.c (⟨⟨r5.1.Track.ID,r5.1.Track.State,r5.1.Track.Time,⟨r7,r8⟩,⟨r12,r13⟩,r5.1.Track.Height,r5.1.Track.Rate,w64 (r9+2),r5.1.Track.Code,r5.1.Track.Hits,r5.1.Track.Misses⟩,w64 (r15+2),r5.1.Last⟩:Za)) 44) (fun _=>{}) (TL.nr (TL.r 9 [5,6] [(189,.p0 b6),(196,.i (w64 (16*(w64 (s.Height-f.Last.Height))))),(197,.i (w64 (s.Time-f.Last.Time)))] {} (TL.c 198 (ZT (w64 (16*(w64 (s.Height-f.Last.Height)))) (w64 (s.Time-f.Last.Time))) (fun r16=>.i r16) (fun w _=>QH (w64 (16*(w64 (s.Height-f.Last.Height)))) (w64 (s.Time-f.Last.Time)) w) {} (fun r16 hr16=>TL.c 199 (Xs r16 (-3200) 3200) (fun r17=>.i r17) (fun w _=>UC r16 (-3200) 3200 w) {} (fun r17 hr17=>TL.r 13 [] [(201,.pt b6 8)] {} (TL.s 1 (Bk b6 (Za.c (⟨⟨r5.1.Track.ID,r5.1.Track.State,r5.1.Track.Time,⟨r7,r8⟩,⟨r12,r13⟩,r5.1.Track.Height,r17,w64 (r9+2),r5.1.Track.Code,r5.1.Track.Hits,r5.1.Track.Misses⟩,w64 (r15+2),r5.1.Last⟩:Za)) 44) (fun _=>{}) (TL.nr (TL.r 5 [5] [(204,.i s.Height),(206,.pt b6 7)] {} (TL.s 1 (Bk b6 (Za.c (⟨⟨r5.1.Track.ID,r5.1.Track.State,r5.1.Track.Time,⟨r7,r8⟩,⟨r12,r13⟩,s.Height,r17,w64 (r9+2),r5.1.Track.Code,r5.1.Track.Hits,r5.1.Track.Misses⟩,w64 (r15+2),r5.1.Last⟩:Za)) 44) (fun _=>{}) (TL.ns (TC.sr (TL.r 3 [5] [(209,.b (s.Code != (-1)))] {} (TL.next rfl (TC.cond (s.Code != (-1)) rfl Kr (fun h8=>?_) (fun h8=>?_))))))))))))))))))))))))))))))))))
         ·refine TC.region (TL.r 5 [5] [(212,.i s.Code),(214,.pt b6 10)] {} (TL.s 1 (Bk b6 (Za.c (⟨⟨r5.1.Track.ID,r5.1.Track.State,r5.1.Track.Time,⟨r7,r8⟩,⟨r12,r13⟩,s.Height,r17,w64 (r9+2),s.Code,r5.1.Track.Hits,r5.1.Track.Misses⟩,w64 (r15+2),r5.1.Last⟩:Za)) 44) (fun _=>{}) (TL.nr (TL.r 7 [1] [(219,.i (w64 (r5.1.Track.Hits+1))),(221,.pt b6 11)] {} (TL.s 1 (Bk b6 (Za.c (⟨⟨r5.1.Track.ID,r5.1.Track.State,r5.1.Track.Time,⟨r7,r8⟩,⟨r12,r13⟩,s.Height,r17,w64 (r9+2),s.Code,w64 (r5.1.Track.Hits+1),r5.1.Track.Misses⟩,w64 (r15+2),r5.1.Last⟩:Za)) 44) (fun _=>{}) (TL.nr (TL.r 3 [] [(224,.pt b6 12)] {} (TL.s 1 (Bk b6 (Za.c (⟨⟨r5.1.Track.ID,r5.1.Track.State,r5.1.Track.Time,⟨r7,r8⟩,⟨r12,r13⟩,s.Height,r17,w64 (r9+2),s.Code,w64 (r5.1.Track.Hits+1),0⟩,w64 (r15+2),r5.1.Last⟩:Za)) 44) (fun _=>{}) (TL.nr (TL.r 2 [5] [(225,Zg.v s),(226,.pt b6 14)] {} (TL.s 1 (Bk b6 (Za.c (⟨⟨r5.1.Track.ID,r5.1.Track.State,r5.1.Track.Time,⟨r7,r8⟩,⟨r12,r13⟩,s.Height,r17,w64 (r9+2),s.Code,w64 (r5.1.Track.Hits+1),0⟩,w64 (r15+2),s⟩:Za)) 44) (fun _=>{}) (TL.ns (TC.sr (TL.r 1 [1] [(227,Za.v (⟨⟨r5.1.Track.ID,r5.1.Track.State,r5.1.Track.Time,⟨r7,r8⟩,⟨r12,r13⟩,s.Height,r17,w64 (r9+2),s.Code,w64 (r5.1.Track.Hits+1),0⟩,w64 (r15+2),s⟩:Za))] {} (TL.c 228 (Zu (⟨⟨r5.1.Track.ID,r5.1.Track.State,r5.1.Track.Time,⟨r7,r8⟩,⟨r12,r13⟩,s.Height,r17,w64 (r9+2),s.Code,w64 (r5.1.Track.Hits+1),0⟩,w64 (r15+2),s⟩:Za)) (fun r18=>.i r18) (fun w _=>XG (⟨⟨r5.1.Track.ID,r5.1.Track.State,r5.1.Track.Time,⟨r7,r8⟩,⟨r12,r13⟩,s.Height,r17,w64 (r9+2),s.Code,w64 (r5.1.Track.Hits+1),0⟩,w64 (r15+2),s⟩:Za) w) {} (fun r18 hr18=>TL.r 3 [] [(229,.b (r18 != 0))] {} (TL.next rfl (TC.cond (r18 != 0) rfl Kr (fun h9=>?_) (fun h9=>?_)))))))))))))))))))
          ·exact TC.sr (TL.r 1 [3] [(230,Za.v (⟨⟨0,0,0,⟨0,0⟩,⟨0,0⟩,0,0,0,0,0,0⟩,0,⟨0,⟨0,0⟩,0,0,0⟩⟩:Za))] {} (TL.s 4 (Bk b3 (Za.c Za.zero) 44) (fun _=>{}) (TL.r 3 [] [(11,.i 8)] {} (TL.next rfl (TC.ret (TE.rt (TE.ret [4] (.tuple #[Za.v (⟨⟨0,0,0,⟨0,0⟩,⟨0,0⟩,0,0,0,0,0,0⟩,0,⟨0,⟨0,0⟩,0,0,0⟩⟩:Za),.i 8]) {} (by unfold ZL;refine eS (a:=((⟨⟨0,0,0,⟨0,0⟩,⟨0,0⟩,0,0,0,0,0,0⟩,0,⟨0,⟨0,0⟩,0,0,0⟩⟩:Za),8)) (fun (z:Za×Int)=>(.tuple #[Za.v z.1,.i z.2]:Value)) ?_;subst hr1 hr2 hr3 hr4 hr5 hr6 hr7 hr8 hr9 hr10 hr11 hr12 hr13 hr14 hr15 hr16 hr17 hr18;exact Zb h1 (Zb h2 (Zb h3 (Zb h4 (Zb h5 (Zb h6 (Zb h7 (Zj h8 (Zj h9 (rfl)))))))))))))))))
          ·exact TC.snr (TL.r 1 [1] [(231,Za.v (⟨⟨r5.1.Track.ID,r5.1.Track.State,r5.1.Track.Time,⟨r7,r8⟩,⟨r12,r13⟩,s.Height,r17,w64 (r9+2),s.Code,w64 (r5.1.Track.Hits+1),0⟩,w64 (r15+2),s⟩:Za))] {} (TL.s 4 (Bk b3 (Za.c (⟨⟨r5.1.Track.ID,r5.1.Track.State,r5.1.Track.Time,⟨r7,r8⟩,⟨r12,r13⟩,s.Height,r17,w64 (r9+2),s.Code,w64 (r5.1.Track.Hits+1),0⟩,w64 (r15+2),s⟩:Za)) 44) (fun _=>{}) (TL.r 3 [] [(11,.i 0)] {} (TL.next rfl (TC.ret (TE.ret [4] (.tuple #[Za.v (⟨⟨r5.1.Track.ID,r5.1.Track.State,r5.1.Track.Time,⟨r7,r8⟩,⟨r12,r13⟩,s.Height,r17,w64 (r9+2),s.Code,w64 (r5.1.Track.Hits+1),0⟩,w64 (r15+2),s⟩:Za),.i 0]) {} (by unfold ZL;refine eS (a:=((⟨⟨r5.1.Track.ID,r5.1.Track.State,r5.1.Track.Time,⟨r7,r8⟩,⟨r12,r13⟩,s.Height,r17,w64 (r9+2),s.Code,w64 (r5.1.Track.Hits+1),0⟩,w64 (r15+2),s⟩:Za),0)) (fun (z:Za×Int)=>(.tuple #[Za.v z.1,.i z.2]:Value)) ?_;subst hr1 hr2 hr3 hr4 hr5 hr6 hr7 hr8 hr9 hr10 hr11 hr12 hr13 hr14 hr15 hr16 hr17 hr18;exact Zb h1 (Zb h2 (Zb h3 (Zb h4 (Zb h5 (Zb h6 (Zb h7 (Zj h8 (Zb h9 (rfl))))))))))))))))
         ·refine TC.snr (TL.r 7 [1] [(219,.i (w64 (r5.1.Track.Hits+1))),(221,.pt b6 11)] {} (TL.s 1 (Bk b6 (Za.c (⟨⟨r5.1.Track.ID,r5.1.Track.State,r5.1.Track.Time,⟨r7,r8⟩,⟨r12,r13⟩,s.Height,r17,w64 (r9+2),r5.1.Track.Code,w64 (r5.1.Track.Hits+1),r5.1.Track.Misses⟩,w64 (r15+2),r5.1.Last⟩:Za)) 44) (fun _=>{}) (TL.nr (TL.r 3 [] [(224,.pt b6 12)] {} (TL.s 1 (Bk b6 (Za.c (⟨⟨r5.1.Track.ID,r5.1.Track.State,r5.1.Track.Time,⟨r7,r8⟩,⟨r12,r13⟩,s.Height,r17,w64 (r9+2),r5.1.Track.Code,w64 (r5.1.Track.Hits+1),0⟩,w64 (r15+2),r5.1.Last⟩:Za)) 44) (fun _=>{}) (TL.nr (TL.r 2 [5] [(225,Zg.v s),(226,.pt b6 14)] {} (TL.s 1 (Bk b6 (Za.c (⟨⟨r5.1.Track.ID,r5.1.Track.State,r5.1.Track.Time,⟨r7,r8⟩,⟨r12,r13⟩,s.Height,r17,w64 (r9+2),r5.1.Track.Code,w64 (r5.1.Track.Hits+1),0⟩,w64 (r15+2),s⟩:Za)) 44) (fun _=>{}) (TL.ns (TC.sr (TL.r 1 [1] [(227,Za.v (⟨⟨r5.1.Track.ID,r5.1.Track.State,r5.1.Track.Time,⟨r7,r8⟩,⟨r12,r13⟩,s.Height,r17,w64 (r9+2),r5.1.Track.Code,w64 (r5.1.Track.Hits+1),0⟩,w64 (r15+2),s⟩:Za))] {} (TL.c 228 (Zu (⟨⟨r5.1.Track.ID,r5.1.Track.State,r5.1.Track.Time,⟨r7,r8⟩,⟨r12,r13⟩,s.Height,r17,w64 (r9+2),r5.1.Track.Code,w64 (r5.1.Track.Hits+1),0⟩,w64 (r15+2),s⟩:Za)) (fun r19=>.i r19) (fun w _=>XG (⟨⟨r5.1.Track.ID,r5.1.Track.State,r5.1.Track.Time,⟨r7,r8⟩,⟨r12,r13⟩,s.Height,r17,w64 (r9+2),r5.1.Track.Code,w64 (r5.1.Track.Hits+1),0⟩,w64 (r15+2),s⟩:Za) w) {} (fun r19 hr19=>TL.r 3 [] [(229,.b (r19 != 0))] {} (TL.next rfl (TC.cond (r19 != 0) rfl Kr (fun h10=>?_) (fun h10=>?_))))))))))))))))
          ·exact TC.sr (TL.r 1 [3] [(230,Za.v (⟨⟨0,0,0,⟨0,0⟩,⟨0,0⟩,0,0,0,0,0,0⟩,0,⟨0,⟨0,0⟩,0,0,0⟩⟩:Za))] {} (TL.s 4 (Bk b3 (Za.c Za.zero) 44) (fun _=>{}) (TL.r 3 [] [(11,.i 8)] {} (TL.next rfl (TC.ret (TE.rt (TE.ret [4] (.tuple #[Za.v (⟨⟨0,0,0,⟨0,0⟩,⟨0,0⟩,0,0,0,0,0,0⟩,0,⟨0,⟨0,0⟩,0,0,0⟩⟩:Za),.i 8]) {} (by unfold ZL;refine eS (a:=((⟨⟨0,0,0,⟨0,0⟩,⟨0,0⟩,0,0,0,0,0,0⟩,0,⟨0,⟨0,0⟩,0,0,0⟩⟩:Za),8)) (fun (z:Za×Int)=>(.tuple #[Za.v z.1,.i z.2]:Value)) ?_;subst hr1 hr2 hr3 hr4 hr5 hr6 hr7 hr8 hr9 hr10 hr11 hr12 hr13 hr14 hr15 hr16 hr17 hr19;exact Zb h1 (Zb h2 (Zb h3 (Zb h4 (Zb h5 (Zb h6 (Zb h7 (Zb h8 (Zj h10 (rfl)))))))))))))))))
          ·exact TC.snr (TL.r 1 [1] [(231,Za.v (⟨⟨r5.1.Track.ID,r5.1.Track.State,r5.1.Track.Time,⟨r7,r8⟩,⟨r12,r13⟩,s.Height,r17,w64 (r9+2),r5.1.Track.Code,w64 (r5.1.Track.Hits+1),0⟩,w64 (r15+2),s⟩:Za))] {} (TL.s 4 (Bk b3 (Za.c (⟨⟨r5.1.Track.ID,r5.1.Track.State,r5.1.Track.Time,⟨r7,r8⟩,⟨r12,r13⟩,s.Height,r17,w64 (r9+2),r5.1.Track.Code,w64 (r5.1.Track.Hits+1),0⟩,w64 (r15+2),s⟩:Za)) 44) (fun _=>{}) (TL.r 3 [] [(11,.i 0)] {} (TL.next rfl (TC.ret (TE.ret [4] (.tuple #[Za.v (⟨⟨r5.1.Track.ID,r5.1.Track.State,r5.1.Track.Time,⟨r7,r8⟩,⟨r12,r13⟩,s.Height,r17,w64 (r9+2),r5.1.Track.Code,w64 (r5.1.Track.Hits+1),0⟩,w64 (r15+2),s⟩:Za),.i 0]) {} (by unfold ZL;refine eS (a:=((⟨⟨r5.1.Track.ID,r5.1.Track.State,r5.1.Track.Time,⟨r7,r8⟩,⟨r12,r13⟩,s.Height,r17,w64 (r9+2),r5.1.Track.Code,w64 (r5.1.Track.Hits+1),0⟩,w64 (r15+2),s⟩:Za),0)) (fun (z:Za×Int)=>(.tuple #[Za.v z.1,.i z.2]:Value)) ?_;subst hr1 hr2 hr3 hr4 hr5 hr6 hr7 hr8 hr9 hr10 hr11 hr12 hr13 hr14 hr15 hr16 hr17 hr19;exact Zb h1 (Zb h2 (Zb h3 (Zb h4 (Zb h5 (Zb h6 (Zb h7 (Zb h8 (Zb h10 (rfl))))))))))))))))
end Go.Sky
end
section
namespace Go.Sky
open Go Go.Eng Go.Proofs
def Yx (n:Int) (high:Int):Bool :=
 (decide (n<0))||(decide (n>high))
set_option maxRecDepth 100000 in
theorem K3 (n:Int) (high:Int) (w:World):Calls Tryz.prog 119 #[.int .i64 n,.int .i64 high] w (Ret w (.bool (Yx n high))):=by
 exact Zk (vs:=[.i n,.i high]) (w:=w) Tryz.func119 rfl Tryz.ntmps119 rfl (TC.sr (TL.r 1 [] [(4,.b false)] {} (TL.nr (TL.r 3 [] [(7,.b (decide (n<0)))] {} (TL.j 7 (decide (n<0)) 7 [] [] (fun β=>[(11,.b (β||(decide (n>high))))]) Kr {} {} (TL.r 8 [] [(4,.b ((decide (n<0))||(decide (n>high))))] {} (TL.next rfl (TC.ret (TE.ret [] (.b ((decide (n<0))||(decide (n>high)))) {} (by unfold Yx;refine eS (fun z=>(.b z:Value)) ?_;exact rfl))))))))))
def YU (square:Int) (radii:Int) (height:Int) (bands:Int) (_x:Sep):Bool :=
 cond (decide (square<(w64 ((w64 (_x.Lateral+radii))*(w64 (_x.Lateral+radii)))))) (
  decide (height<(w64 (_x.Vertical+bands)))) (
  false)
set_option maxRecDepth 100000 in
theorem W2 (square:Int) (radii:Int) (height:Int) (bands:Int) (a__x:Addr) (_x:Sep) (w:World) (h__x:Rd w 2 (some a__x) [Sep.c _x]):Calls Tryz.prog 60 #[.int .i64 square,.int .i64 radii,.int .i64 height,.int .i64 bands,.pointer (some a__x)] w (Ret w (.bool (YU square radii height bands _x))):=by
 refine Zk (vs:=[.i square,.i radii,.i height,.i bands,.pointer (some a__x)]) (w:=w) Tryz.func60 rfl Tryz.ntmps60 rfl (TC.sr (TL.r 1 [] [(9,.b false)] {} (TL.nr (TL.r 1 [] [(11,.pointer (some a__x))] {} (TL.v (sV (Instr.loadAt 3 (.pointer (some a__x)))) 12 (.i _x.Lateral) (fun w hM=>Zs (off:=0) (.i _x.Lateral) (h__x.sat hM) (Xv _) Kr Kr) {} (TL.r 5 [] [(10,.i (w64 (_x.Lateral+radii)))] {} (TL.nr (TL.r 6 [] [(20,.b (decide (square<(w64 ((w64 (_x.Lateral+radii))*(w64 (_x.Lateral+radii)))))))] {} (TL.split 20 (decide (square<(w64 ((w64 (_x.Lateral+radii))*(w64 (_x.Lateral+radii)))))) Kr (fun h1=>?_) (fun h1=>?_))))))))))
 ·exact TL.r 8 [] [(21,.i height),(22,.pointer (some (a__x.add 1)))] {} (TL.v (sV (Instr.loadAt 3 (.pointer (some (a__x.add 1))))) 23 (.i _x.Vertical) (fun w hM=>Zs (off:=1) (.i _x.Vertical) (h__x.sat hM) (Xv _) Kr Kr) {} (TL.r 14 [] [(9,.b (decide (height<(w64 (_x.Vertical+bands)))))] {} (TL.next rfl (TC.ret (TE.ret [] (.b (decide (height<(w64 (_x.Vertical+bands))))) {} (by unfold YU;refine eS (fun z=>(.b z:Value)) ?_;exact Zj h1 (rfl)))))))
 ·exact TL.r 14 [] [(9,.b false)] {} (TL.next rfl (TC.ret (TE.ret [] (.b false) {} (by unfold YU;refine eS (fun z=>(.b z:Value)) ?_;exact Zb h1 (rfl)))))
def J5 (a:Za) (b_:Za):Nat→Nat→((Unit) ⊕ (Int×Int))
 | 0,_=>.inl ()
 | m+1,k=>let r1:=Zu (([a,b_]:List Za)[k]?.getD Za.zero)
  cond (r1 != 0) (
   .inr (0,r1)) (
   J5 a b_ m (k+1))
def Qg (a:Za) (b_:Za) (accel:Int) (climb:Int) (c0:Sep):Nat→Nat→((Unit) ⊕ (Int×Int))
 | 0,_=>.inl ()
 | m+1,k_2=>let r7:=Zo a (w64 ((Q4 a.Track.Time b_.Track.Time)+(k_2:Int))) accel
  let r8:=Zo b_ (w64 ((Q4 a.Track.Time b_.Track.Time)+(k_2:Int))) accel
  cond ((r7.2 != 0)||(r8.2 != 0)) (
   .inr (0,12)) (
   let r9:=ZN r7.1.Track.At r8.1.Track.At
   let r10:=YU r9 (w64 (r7.1.Track.Radius+r8.1.Track.Radius)) (Q4 (w64 (r7.1.Track.Height-r8.1.Track.Height)) (w64 (r8.1.Track.Height-r7.1.Track.Height))) (w64 (200+(w64 (climb*(w64 ((w64 ((w64 (2*(w64 ((Q4 a.Track.Time b_.Track.Time)+(k_2:Int)))))-a.Track.Time))-b_.Track.Time)))))) c0
   cond r10 (
    .inr ((k_2:Int),0)) (
    Qg a b_ accel climb c0 m (k_2+1)))
def Xl (a:Za) (b_:Za) (s:Sep) (seconds:Int) (accel:Int) (climb:Int) (c0:Sep):Int×Int :=
 Sum.elim (fun _ =>
  let r2:=Yx s.Lateral 1000000
  cond r2 (
   (0,4)) (
   let r3:=Yx s.Vertical 60000
   cond r3 (
    (0,4)) (
    let r4:=Yx seconds 300
    cond r4 (
     (0,4)) (
     let r5:=Yx accel 20
     cond r5 (
      (0,4)) (
      let r6:=Yx climb 200
      cond r6 (
       (0,4)) (
       Sum.elim (fun _ =>
        (0,8)) (fun r=>r) (Qg a b_ accel climb c0 ((seconds+1).toNat) 0))))))) (fun r=>r) (J5 a b_ ((2:Int).toNat) 0)
theorem VB {n high:Int} {r:Bool} (hr:Yx n high=r) (h:r=false):0≤n∧n≤high:=by
 subst hr;unfold Yx at h
 by_cases h1:n<0
 ·rw[decide_eq_true h1] at h;cases h
 ·rw[decide_eq_false h1] at h;have:=of_decide_eq_false h;omega
set_option maxHeartbeats 4000000 in
set_option maxRecDepth 100000 in
theorem Ha (a:Za) (b_:Za) (s:Sep) (seconds:Int) (accel:Int) (climb:Int) (a_c0:Addr) (c0:Sep) (w:World) (h_c0:Rd w 2 (some a_c0) [Sep.c c0]):Calls Tryz.prog 59 #[Za.v a,Za.v b_,Sep.v s,.int .i64 seconds,.int .i64 accel,.int .i64 climb,.func (.func 60) #[] #[.pointer (some a_c0)]] w (Ret w (.tuple #[.int .i64 ((Xl a b_ s seconds accel climb c0).1),.int .i64 ((Xl a b_ s seconds accel climb c0).2)])):=by
 refine Zk (vs:=[Za.v a,Za.v b_,Sep.v s,.i seconds,.i accel,.i climb,.func (.func 60) #[] #[.pointer (some a_c0)]]) (w:=w) Tryz.func59 rfl Tryz.ntmps59 rfl (TC.sr (TL.nw 7 (fun b1=>.p0 b1) (fun b1=>Bk b1 (Za.c a) 44) (fun b1=>{}) (fun b1=>TL.nw 8 (fun b2=>.p0 b2) (fun b2=>Bk b2 (Za.c b_) 44) (fun b2=>{}) (fun b2=>TL.nw 9 (fun b3=>.p0 b3) (fun b3=>Bk b3 (Sep.c s) 62) (fun b3=>{}) (fun b3=>TL.r 5 [] [(14,.i 0),(15,.i 0)] {} (TL.ns (TC.sr (TL.r 2 [2,1] [(28,Za.v a),(29,Za.v b_)] {} (TL.nw 30 (fun b4=>.slice (Pa b4) 2 2) (fun b4=>Bk b4 #[.i a.Track.ID,.i a.Track.State,.i a.Track.Time,.i a.Track.At.X,.i a.Track.At.Y,.i a.Track.Speed.X,.i a.Track.Speed.Y,.i a.Track.Height,.i a.Track.Rate,.i a.Track.Radius,.i a.Track.Code,.i a.Track.Hits,.i a.Track.Misses,.i a.Slack,.i a.Last.Time,.i a.Last.At.X,.i a.Last.At.Y,.i a.Last.Height,.i a.Last.Code,.i a.Last.Error,.i b_.Track.ID,.i b_.Track.State,.i b_.Track.Time,.i b_.Track.At.X,.i b_.Track.At.Y,.i b_.Track.Speed.X,.i b_.Track.Speed.Y,.i b_.Track.Height,.i b_.Track.Rate,.i b_.Track.Radius,.i b_.Track.Code,.i b_.Track.Hits,.i b_.Track.Misses,.i b_.Slack,.i b_.Last.Time,.i b_.Last.At.X,.i b_.Last.At.Y,.i b_.Last.Height,.i b_.Last.Code,.i b_.Last.Error] 44) (fun b4=>{}) (fun b4=>TL.r 5 [] [(31,.i 2),(32,.i 0)] {} (TL.next rfl (TC.conv [Ow (Pa b4) 2 44 20 (([a,b_]:List Za).map Za.c),Bk b3 (Sep.c s) 62,Bk b2 (Za.c b_) 44,Bk b1 (Za.c a) 44] (fun _ hM=>by exact hM.litrow 0 (([a,b_]:List Za).map Za.c) rfl Kr Kr Kr Kr) ?_))))))))))))
 obtain⟨R2,hR⟩:∃ R,R=J5 a b_ ((2:Int).toNat) 0:=⟨_,rfl⟩
 refine TC.cut (S:=Unit) (fun (_:Unit)=>[(3,.i seconds),(4,.i accel),(5,.i climb),(6,.func (.func 60) #[] #[.pointer (some a_c0)]),(7,.p0 b1),(8,.p0 b2),(9,.p0 b3)]) (fun (_:Unit)=>[Bk b3 (Sep.c s) 62,Bk b2 (Za.c b_) 44,Bk b1 (Za.c a) 44]) (fun (_:Unit)=>R2=.inl ()) ?_ ?_
 ·refine TC.block (TC.lw (X:=Nat) (fun k=>[(3,.i seconds),(4,.i accel),(5,.i climb),(6,.func (.func 60) #[] #[.pointer (some a_c0)]),(7,.p0 b1),(8,.p0 b2),(9,.p0 b3),(30,.slice (Pa b4) (([a,b_]:List Za).length) 2),(31,.i 2),(32,.i (k:Int))]) (fun k=>[Ow (Pa b4) 2 44 20 (([a,b_]:List Za).map Za.c),Bk b3 (Sep.c s) 62,Bk b2 (Za.c b_) 44,Bk b1 (Za.c a) 44]) (fun k=>(2:Int).toNat-k) (fun k=>k≤(2:Int).toNat∧R2=J5 a b_ ((2:Int).toNat-k) k) ?_ 0 ⟨Nat.zero_le _,hR⟩ Kr (sb 15))
  rintro k ⟨hk,hI⟩
  refine TC.sr (TL.r 1 [] [(33,.b (decide ((k:Int)<2)))] {} (TL.ns (TC.cond (decide ((k:Int)<2)) rfl Kr (fun h1=>?_) (fun h1=>?_))))
  ·have hlt:k<(2:Int).toNat:=by have:=of_decide_eq_true h1;first|omega|(simp at this;omega)
   have hd:(2:Int).toNat-k=((2:Int).toNat-(k+1))+1:=by omega
   refine TC.sn (TC.seq (TC.block (TC.sr (TL.v (sV (Instr.indexAt 31 (.slice (Pa b4) (([a,b_]:List Za).length) 2) (.i (k:Int)))) 34 (.pointer (some (((Pa b4).getD Yc).add (k*20)))) (fun w hM=>Zp (hM.rd_at 0 rfl) (by simp) Kr sd sd) {} (TL.v (sV (Instr.loadAt 44 (.pointer (some (((Pa b4).getD Yc).add (k*20)))))) 35 (Za.v (([a,b_]:List Za)[k]?.getD Za.zero)) (fun w hM=>Z6 (n:=20) (off:=0) (i:=k) (Za.v (([a,b_]:List Za)[k]?.getD Za.zero)) (hM.rd_at 0 rfl) (Z8 (getD_at _ _ Za.zero sd)) Kr Kr Kr) {} (TL.nw 17 (fun b5=>.p0 b5) (fun b5=>Bk b5 (Za.c Za.zero) 44) (fun b5=>{}) (fun b5=>TL.s 0 (Bk b5 (Za.c (([a,b_]:List Za)[k]?.getD Za.zero)) 44) (fun _=>{}) (TL.nr (TL.r 1 [0] [(36,Za.v (([a,b_]:List Za)[k]?.getD Za.zero))] {} (TL.c 37 (Zu (([a,b_]:List Za)[k]?.getD Za.zero)) (fun r1=>.i r1) (fun w _=>XG (([a,b_]:List Za)[k]?.getD Za.zero) w) {} (fun r1 hr1=>TL.r 3 [] [(18,.i r1)] {} (TL.nr (TL.r 2 [] [(39,.b (r1 != 0))] {} (TL.next rfl (TC.cond (r1 != 0) rfl Kr (fun h2=>?_) (fun h2=>?_))))))))))))))))
   ·refine TC.sr (TL.r 3 [] [(14,.i 0),(15,.i r1)] {} (TL.next rfl (TC.ret (TE.rb (TE.rt (TE.rt (TE.rb (TE.rt (TE.rt ?_)))))))))
    exact TE.ret [] (.tuple #[.i 0,.i r1]) {} (by unfold Xl;refine eS (a:=(0,r1)) (fun (z:Int×Int)=>(.tuple #[.i z.1,.i z.2]:Value)) ?_;subst hr1;exact X3 (hR.symm.trans (hI.trans (by rw[hd];exact Zj h2 (rfl)))) rfl)
   ·have q2_0:=(QQ h2)
    exact TC.skip (TE.nb (TE.next (TC.region (TL.r 2 [] [(32,.i (w64 ((k:Int)+1)))] {} (TL.done rfl (TE.rw 32 (.i (w64 ((k:Int)+1))) (.i ((k+1:Nat):Int)) Kr (ZF k (by omega)) (TE.again (x:=k) (k+1) ⟨by omega,hI.trans (by subst hr1;rw[hd];exact Zb h2 (rfl))⟩ (mN hlt) Kr (sb 30))))))))
  ·have hd:(2:Int).toNat-k=0:=by have:=of_decide_eq_false h1;first|omega|(simp at this;omega)
   refine TC.exit (TE.et (TE.et (TE.exit_same ?_)))
   exact TE.cut () (hI.trans (by rw[hd];exact rfl)) Kr (sb 14)
 ·intro _ hJ
  refine TE.next (TC.seq (TC.sr (TL.r 2 [0] [(43,.i s.Lateral)] {} (TL.c 44 (Yx s.Lateral 1000000) (fun r2=>.b r2) (fun w _=>K3 s.Lateral 1000000 w) {} (fun r2 hr2=>TL.r 4 [] [(45,.b r2)] {} (TL.split 45 r2 Kr (fun h3=>?_) (fun h3=>?_)))))))
  ·exact TL.r 20 [] [(61,.b true)] {} (TL.next rfl (TC.condT rfl Kr (TC.sr (TL.r 2 [] [(14,.i 0),(15,.i 4)] {} (TL.next rfl (TC.ret (TE.rt (TE.ret [] (.tuple #[.i 0,.i 4]) {} (by unfold Xl;refine eS (a:=(0,4)) (fun (z:Int×Int)=>(.tuple #[.i z.1,.i z.2]:Value)) ?_;subst hr2;exact Xk (hR.symm.trans hJ) (Zj h3 (rfl)))))))))))
  ·refine TL.r 6 [0] [(47,.i s.Vertical)] {} (TL.c 48 (Yx s.Vertical 60000) (fun r3=>.b r3) (fun w _=>K3 s.Vertical 60000 w) {} (fun r3 hr3=>TL.r 9 [] [(50,.b r3)] {} (TL.split 50 r3 Kr (fun h4=>?_) (fun h4=>?_))))
   ·exact TL.r 20 [] [(61,.b true)] {} (TL.next rfl (TC.condT rfl Kr (TC.sr (TL.r 2 [] [(14,.i 0),(15,.i 4)] {} (TL.next rfl (TC.ret (TE.rt (TE.ret [] (.tuple #[.i 0,.i 4]) {} (by unfold Xl;refine eS (a:=(0,4)) (fun (z:Int×Int)=>(.tuple #[.i z.1,.i z.2]:Value)) ?_;subst hr2 hr3;exact Xk (hR.symm.trans hJ) (Zb h3 (Zj h4 (rfl))))))))))))
   ·refine TL.r 10 [] [(51,.i seconds)] {} (TL.c 52 (Yx seconds 300) (fun r4=>.b r4) (fun w _=>K3 seconds 300 w) {} (fun r4 hr4=>TL.r 13 [] [(54,.b r4)] {} (TL.split 54 r4 Kr (fun h5=>?_) (fun h5=>?_))))
    ·exact TL.r 20 [] [(61,.b true)] {} (TL.next rfl (TC.condT rfl Kr (TC.sr (TL.r 2 [] [(14,.i 0),(15,.i 4)] {} (TL.next rfl (TC.ret (TE.rt (TE.ret [] (.tuple #[.i 0,.i 4]) {} (by unfold Xl;refine eS (a:=(0,4)) (fun (z:Int×Int)=>(.tuple #[.i z.1,.i z.2]:Value)) ?_;subst hr2 hr3 hr4;exact Xk (hR.symm.trans hJ) (Zb h3 (Zb h4 (Zj h5 (rfl)))))))))))))
    ·refine TL.r 14 [] [(55,.i accel)] {} (TL.c 56 (Yx accel 20) (fun r5=>.b r5) (fun w _=>K3 accel 20 w) {} (fun r5 hr5=>TL.r 17 [] [(58,.b r5)] {} (TL.split 58 r5 Kr (fun h6=>?_) (fun h6=>?_))))
     ·exact TL.r 20 [] [(61,.b true)] {} (TL.next rfl (TC.condT rfl Kr (TC.sr (TL.r 2 [] [(14,.i 0),(15,.i 4)] {} (TL.next rfl (TC.ret (TE.rt (TE.ret [] (.tuple #[.i 0,.i 4]) {} (by unfold Xl;refine eS (a:=(0,4)) (fun (z:Int×Int)=>(.tuple #[.i z.1,.i z.2]:Value)) ?_;subst hr2 hr3 hr4 hr5;exact Xk (hR.symm.trans hJ) (Zb h3 (Zb h4 (Zb h5 (Zj h6 (rfl))))))))))))))
     ·refine TL.r 18 [] [(59,.i climb)] {} (TL.c 60 (Yx climb 200) (fun r6=>.b r6) (fun w _=>K3 climb 200 w) {} (fun r6 hr6=>TL.r 20 [] [(61,.b r6)] {} (TL.next rfl (TC.cond r6 rfl Kr (fun h7=>?_) (fun h7=>?_)))))
      ·exact TC.sr (TL.r 2 [] [(14,.i 0),(15,.i 4)] {} (TL.next rfl (TC.ret (TE.rt (TE.ret [] (.tuple #[.i 0,.i 4]) {} (by unfold Xl;refine eS (a:=(0,4)) (fun (z:Int×Int)=>(.tuple #[.i z.1,.i z.2]:Value)) ?_;subst hr2 hr3 hr4 hr5 hr6;exact Xk (hR.symm.trans hJ) (Zb h3 (Zb h4 (Zb h5 (Zb h6 (Zj h7 (rfl))))))))))))
      ·refine TC.snr (TL.r 8 [2,1] [(19,.i (Q4 a.Track.Time b_.Track.Time))] {} (TL.ns (TC.sr (TL.r 1 [] [(20,.i 0)] {} (TL.next rfl ?_)))))
       obtain⟨R3,hR_2⟩:∃ R,R=Qg a b_ accel climb c0 ((seconds+1).toNat) 0:=⟨_,rfl⟩
       refine TC.cut (S:=Unit) (fun (_:Unit)=>[]) (fun (_:Unit)=>[]) (fun (_:Unit)=>R3=.inl ()) ?_ ?_
       ·refine TC.block (TC.lw (X:=Nat) (fun k_2=>[(3,.i seconds),(4,.i accel),(5,.i climb),(6,.func (.func 60) #[] #[.pointer (some a_c0)]),(7,.p0 b1),(8,.p0 b2),(19,.i (Q4 a.Track.Time b_.Track.Time)),(20,.i (k_2:Int))]) (fun k_2=>[Bk b2 (Za.c b_) 44,Bk b1 (Za.c a) 44]) (fun k_2=>((seconds+1).toNat)-k_2) (fun k_2=>k_2≤((seconds+1).toNat)∧R3=Qg a b_ accel climb c0 (((seconds+1).toNat)-k_2) k_2) ?_ 0 ⟨Nat.zero_le _,hR_2⟩ Kr (sb 6))
        rintro k_2 ⟨hk_2,hI_2⟩
        refine TC.seq (TC.sr (TL.r 3 [] [(71,.b (decide ((k_2:Int)≤seconds)))] {} (TL.next rfl (TC.cond (decide ((k_2:Int)≤seconds)) rfl Kr (fun h8=>?_) (fun h8=>?_)))))
        ·have hlt_2:k_2<((seconds+1).toNat):=by have p0_:=(Z1 h8);have u1_:=VB hr4 h5;first|omega|(simp only[Yi] at *;omega)
         have hd_2:((seconds+1).toNat)-k_2=(((seconds+1).toNat)-(k_2+1))+1:=by omega
         have q8_0:=(Z1 h8)
         refine TC.sn (TC.seq (TC.block (TC.sr (TL.r 5 [1] [(75,Za.v a),(78,.i (w64 ((Q4 a.Track.Time b_.Track.Time)+(k_2:Int)))),(79,.i accel)] {} (TL.c 80 (Zo a (w64 ((Q4 a.Track.Time b_.Track.Time)+(k_2:Int))) accel) (fun r7=>.tuple #[Za.v r7.1,.i r7.2]) (fun w _=>QR a (w64 ((Q4 a.Track.Time b_.Track.Time)+(k_2:Int))) accel w) {} (fun r7 hr7=>TL.r 9 [] [(81,Za.v r7.1),(82,.i r7.2)] {} (TL.nw 21 (fun b6=>.p0 b6) (fun b6=>Bk b6 (Za.c Za.zero) 44) (fun b6=>{}) (fun b6=>TL.s 0 (Bk b6 (Za.c r7.1) 44) (fun _=>{}) (TL.r 12 [] [(22,.i r7.2)] {} (TL.nr (TL.r 5 [1] [(84,Za.v b_),(87,.i (w64 ((Q4 a.Track.Time b_.Track.Time)+(k_2:Int)))),(88,.i accel)] {} (TL.c 89 (Zo b_ (w64 ((Q4 a.Track.Time b_.Track.Time)+(k_2:Int))) accel) (fun r8=>.tuple #[Za.v r8.1,.i r8.2]) (fun w _=>QR b_ (w64 ((Q4 a.Track.Time b_.Track.Time)+(k_2:Int))) accel w) {} (fun r8 hr8=>TL.r 9 [] [(90,Za.v r8.1),(91,.i r8.2)] {} (TL.nw 23 (fun b7=>.p0 b7) (fun b7=>Bk b7 (Za.c Za.zero) 44) (fun b7=>{}) (fun b7=>TL.s 0 (Bk b7 (Za.c r8.1) 44) (fun _=>{}) (TL.r 12 [] [(24,.i r8.2)] {} (TL.ns (TC.sr (TL.r 3 [] [(94,.b (r7.2 != 0))] {} (TL.j 94 (r7.2 != 0) 6 [] [] (fun β=>[(97,.b (β||(r8.2 != 0)))]) Kr {} {} (TL.next rfl (TC.cond ((r7.2 != 0)||(r8.2 != 0)) rfl Kr (fun h9=>?_) (fun h9=>?_)))))))))))))))))))))))
         ·refine TC.sr (TL.r 2 [] [(14,.i 0),(15,.i 12)] {} (TL.next rfl (TC.ret (TE.rt (TE.rb (TE.rt (TE.rt (TE.rb (TE.rt (TE.rt ?_))))))))))
          exact TE.ret [] (.tuple #[.i 0,.i 12]) {} (by unfold Xl;refine eS (a:=(0,12)) (fun (z:Int×Int)=>(.tuple #[.i z.1,.i z.2]:Value)) ?_;subst hr2 hr3 hr4 hr5 hr6 hr7 hr8;exact Xk (hR.symm.trans hJ) (Zb h3 (Zb h4 (Zb h5 (Zb h6 (Zb h7 (X3 (hR_2.symm.trans (hI_2.trans (by rw[hd_2];exact Zj h9 (rfl)))) rfl)))))))
         ·have q9_0:=(QQ (Zt h9))
          have q9_1:=(QQ (ZR h9))
          refine TC.sn (TC.seq ?_)
          let Mr18_:Mem:=[Bk b7 (Za.c r8.1) 44,Bk b6 (Za.c r7.1) 44,Bk b2 (Za.c b_) 44,Bk b1 (Za.c a) 44]
          refine TC.plan (G:=Nat×Nat) (base:=[(3,.i seconds),(4,.i accel),(5,.i climb),(6,.func (.func 60) #[] #[.pointer (some a_c0)]),(7,.p0 b1),(8,.p0 b2),(19,.i (Q4 a.Track.Time b_.Track.Time)),(20,.i (k_2:Int)),(21,.p0 b6),(23,.p0 b7)]) (vals:=fun γ=>[.p0 b6,Track.v r7.1.Track,.p0 b7,Track.v r8.1.Track,.p0 γ.1,.p0 γ.2,undef,undef]) (writes:=[4,5,6,7]) (mem:=fun bs γ=>match bs with | [x4_,x5_,x6_,x7_]=>(bif x6_ then [Bk γ.1 (Track.c r7.1.Track) 40] else bif x4_ then [Bk γ.1 (Track.c Track.zero) 40] else [])++((bif x7_ then [Bk γ.2 (Track.c r8.1.Track) 40] else bif x5_ then [Bk γ.2 (Track.c Track.zero) 40] else [])++(Mr18_))|_=>[]) (0,0) (fun γ=>[(3,.i seconds),(4,.i accel),(5,.i climb),(6,.func (.func 60) #[] #[.pointer (some a_c0)]),(7,.p0 b1),(8,.p0 b2),(19,.i (Q4 a.Track.Time b_.Track.Time)),(20,.i (k_2:Int)),(25,.p0 γ.1),(26,.p0 γ.2)]) Kr Kr Kr Kr Kr (fun γ=>Kr) (fun _ hM=>hM) (fun γ=>Kr) ?_ ?_
          ·skip
           exact Steps.run (i:=0) 4 [0,1,0,0] Mr18_ Kr Kr (fun S (γ:Nat×Nat) w hM=>by rw[mS4 rfl rfl rfl rfl] at hM;exact hM.sub (Zl (Zl (List.Sublist.refl _)))) Kr (fun (γ:Nat×Nat)=>{}) (Steps.op (i:=4) (Γ:=Nat) (fun g (γ:Nat×Nat)=>(g,γ.2)) (fun _=>[]) (fun b (γ:Nat×Nat)=>[Bk b (Track.c Track.zero) 40]) (fun S (γ:Nat×Nat)=>(bif S 7 then [Bk γ.2 (Track.c r8.1.Track) 40] else bif S 5 then [Bk γ.2 (Track.c Track.zero) 40] else [])++(Mr18_)) [4,6,7] (fun (γ:Nat×Nat)=>sV (Instr.alloc 40 true (.tuple #[]))) (some 25) (fun b (γ:Nat×Nat)=>.p0 b) (fun S (γ:Nat×Nat) hj hd hl=>by rw[mS4 hj rfl (hl 6 Kr) rfl];exact List.Perm.refl _) (fun S (γ:Nat×Nat) g hl=>by rw[mS4 (S:=upS S 4) (a0:=4) (a1:=5) (a2:=6) (a3:=7) rfl rfl (hl 6 Kr) rfl];exact(List.Perm.refl _).symm) (fun (γ:Nat×Nat) M' w hM=>Qd (v:=fun b=>.p0 b) (fun b M=>Kr) M' w hM) (fun (γ:Nat×Nat)=>Kr) (fun (γ:Nat×Nat) g=>Kr) Kr (fun (γ:Nat×Nat) g=>Kr) (Steps.op (i:=5) (Γ:=Nat) (fun g (γ:Nat×Nat)=>(γ.1,g)) (fun _=>[]) (fun b (γ:Nat×Nat)=>[Bk b (Track.c Track.zero) 40]) (fun S (γ:Nat×Nat)=>(bif S 6 then [Bk γ.1 (Track.c r7.1.Track) 40] else bif S 4 then [Bk γ.1 (Track.c Track.zero) 40] else [])++(Mr18_)) [5,6,7] (fun (γ:Nat×Nat)=>sV (Instr.alloc 40 true (.tuple #[]))) (some 26) (fun b (γ:Nat×Nat)=>.p0 b) (fun S (γ:Nat×Nat) hj hd hl=>by rw[mS4 rfl hj rfl (hl 7 Kr)];exact(List.Perm.append_left _ (List.Perm.refl _)).trans (ZP _ _ _)) (fun S (γ:Nat×Nat) g hl=>by rw[mS4 (S:=upS S 5) (a0:=4) (a1:=5) (a2:=6) (a3:=7) rfl rfl rfl (hl 7 Kr)];exact((List.Perm.append_left _ (List.Perm.refl _)).trans (ZP _ _ _)).symm) (fun (γ:Nat×Nat) M' w hM=>Qd (v:=fun b=>.p0 b) (fun b M=>Kr) M' w hM) (fun (γ:Nat×Nat)=>Kr) (fun (γ:Nat×Nat) g=>Kr) Kr (fun (γ:Nat×Nat) g=>Kr) (Steps.put (i:=6) (fun (γ:Nat×Nat)=>[Bk γ.1 (Track.c Track.zero) 40]) (fun (γ:Nat×Nat)=>[Bk γ.1 (Track.c r7.1.Track) 40]) (fun S (γ:Nat×Nat)=>(bif S 7 then [Bk γ.2 (Track.c r8.1.Track) 40] else bif S 5 then [Bk γ.2 (Track.c Track.zero) 40] else [])++(Mr18_)) (fun (γ:Nat×Nat)=>sU (Instr.storeAt 40 (.p0 γ.1) (Track.v r7.1.Track))) none (fun S (γ:Nat×Nat) hj hd hl=>by rw[mS4 (hd 4 Kr) rfl hj rfl];exact List.Perm.refl _) (fun S (γ:Nat×Nat) _=>(List.Perm.refl _).symm) (fun (γ:Nat×Nat) M' w hM=>QD (fun b M=>Kr) (fun b M=>Kr) M' w hM) (fun (γ:Nat×Nat)=>Kr) (fun (γ:Nat×Nat)=>Kr) (Steps.put (i:=7) (fun (γ:Nat×Nat)=>[Bk γ.2 (Track.c Track.zero) 40]) (fun (γ:Nat×Nat)=>[Bk γ.2 (Track.c r8.1.Track) 40]) (fun S (γ:Nat×Nat)=>(bif S 6 then [Bk γ.1 (Track.c r7.1.Track) 40] else bif S 4 then [Bk γ.1 (Track.c Track.zero) 40] else [])++(Mr18_)) (fun (γ:Nat×Nat)=>sU (Instr.storeAt 40 (.p0 γ.2) (Track.v r8.1.Track))) none (fun S (γ:Nat×Nat) hj hd hl=>by rw[mS4 rfl (hd 5 Kr) rfl hj];exact(List.Perm.append_left _ (List.Perm.refl _)).trans (ZP _ _ _)) (fun S (γ:Nat×Nat) _=>((List.Perm.append_left _ (List.Perm.refl _)).trans (ZP _ _ _)).symm) (fun (γ:Nat×Nat) M' w hM=>QD (fun b M=>Kr) (fun b M=>Kr) M' w hM) (fun (γ:Nat×Nat)=>Kr) (fun (γ:Nat×Nat)=>Kr) (Steps.done Kr)))))
          ·rintro⟨b8,b9⟩
           refine TE.conv [Bk b8 (Track.c r7.1.Track) 40,Bk b9 (Track.c r8.1.Track) 40,Bk b7 (Za.c r8.1) 44,Bk b6 (Za.c r7.1) 44,Bk b2 (Za.c b_) 44,Bk b1 (Za.c a) 44] (fun _ hM=>hM) (TE.nr (TL.r 16 [5,4] [(27,.i (w64 (200+(w64 (climb*(w64 ((w64 ((w64 (2*(w64 ((Q4 a.Track.Time b_.Track.Time)+(k_2:Int)))))-a.Track.Time))-b_.Track.Time)))))))] {} (TL.ns (TC.draw 24 Kr Kr Kr (TQ.r 5 [0,1] [(117,.func (.func 60) #[] #[.pointer (some a_c0)]),(119,P.v r7.1.Track.At),(121,P.v r8.1.Track.At)] {} (TQ.c 122 (ZN r7.1.Track.At r8.1.Track.At) (fun r9=>.i r9) (fun w _=>JK r7.1.Track.At r8.1.Track.At w) rfl {} (fun r9 hr9=>TQ.r 23 [0,1,0,1,1,0] [(127,.i (w64 (r7.1.Track.Radius+r8.1.Track.Radius))),(138,.i (Q4 (w64 (r7.1.Track.Height-r8.1.Track.Height)) (w64 (r8.1.Track.Height-r7.1.Track.Height)))),(139,.i (w64 (200+(w64 (climb*(w64 ((w64 ((w64 (2*(w64 ((Q4 a.Track.Time b_.Track.Time)+(k_2:Int)))))-a.Track.Time))-b_.Track.Time)))))))] {} (TQ.c 140 (YU r9 (w64 (r7.1.Track.Radius+r8.1.Track.Radius)) (Q4 (w64 (r7.1.Track.Height-r8.1.Track.Height)) (w64 (r8.1.Track.Height-r7.1.Track.Height))) (w64 (200+(w64 (climb*(w64 ((w64 ((w64 (2*(w64 ((Q4 a.Track.Time b_.Track.Time)+(k_2:Int)))))-a.Track.Time))-b_.Track.Time)))))) c0) (fun r10=>.b r10) (fun w hM=>W2 r9 (w64 (r7.1.Track.Radius+r8.1.Track.Radius)) (Q4 (w64 (r7.1.Track.Height-r8.1.Track.Height)) (w64 (r8.1.Track.Height-r7.1.Track.Height))) (w64 (200+(w64 (climb*(w64 ((w64 ((w64 (2*(w64 ((Q4 a.Track.Time b_.Track.Time)+(k_2:Int)))))-a.Track.Time))-b_.Track.Time)))))) a_c0 c0 w (h_c0.sat hM)) rfl {} (fun r10 hr10=>TQ.next rfl (TC.cond r10 rfl Kr (fun h10=>?_) (fun h10=>?_)))))))))))
           ·refine TC.sr (TL.r 3 [] [(14,.i (k_2:Int)),(15,.i 0)] {} (TL.next rfl (TC.ret (TE.rb (TE.rt (TE.rt (TE.rb (TE.rt (TE.rt ?_)))))))))
            exact TE.ret [] (.tuple #[.i (k_2:Int),.i 0]) {} (by unfold Xl;refine eS (a:=((k_2:Int),0)) (fun (z:Int×Int)=>(.tuple #[.i z.1,.i z.2]:Value)) ?_;subst hr2 hr3 hr4 hr5 hr6 hr7 hr8 hr9 hr10;exact Xk (hR.symm.trans hJ) (Zb h3 (Zb h4 (Zb h5 (Zb h6 (Zb h7 (X3 (hR_2.symm.trans (hI_2.trans (by rw[hd_2];exact Zb h9 (Zj h10 (rfl))))) rfl)))))))
           ·exact TC.skip (TE.nb (TE.next (TC.region (TL.r 3 [] [(20,.i (w64 ((k_2:Int)+1)))] {} (TL.done rfl (TE.rw 20 (.i (w64 ((k_2:Int)+1))) (.i ((k_2+1:Nat):Int)) Kr (int_eq (by have u1_:=VB hr4 h5;first|omega|(rw[Zn (by omega)];omega)|(simp only[Yi] at *;omega))) (TE.again (x:=k_2) (k_2+1) ⟨by omega,hI_2.trans (by subst hr2 hr3 hr4 hr5 hr6 hr7 hr8 hr9 hr10;rw[hd_2];exact Zb h9 (Zb h10 (rfl)))⟩ (mN hlt_2) Kr (sb 48))))))))
        ·have hd_2:((seconds+1).toNat)-k_2=0:=by have p0_:=(Zq h8);have u1_:=VB hr4 h5;first|omega|(simp only[Yi] at *;omega)
         refine TC.exit (TE.et (TE.et (TE.exit_same ?_)))
         exact TE.cut () (hI_2.trans (by subst hr2 hr3 hr4 hr5 hr6;rw[hd_2];exact rfl)) Kr (sb 0)
       ·intro _ hJ_2
        exact TE.nr (TL.r 2 [] [(14,.i 0),(15,.i 8)] {} (TL.next rfl (TC.ret (TE.ret [] (.tuple #[.i 0,.i 8]) {} (by unfold Xl;refine eS (a:=(0,8)) (fun (z:Int×Int)=>(.tuple #[.i z.1,.i z.2]:Value)) ?_;subst hr2 hr3 hr4 hr5 hr6;exact Xk (hR.symm.trans hJ) (Zb h3 (Zb h4 (Zb h5 (Zb h6 (Zb h7 (Xk (hR_2.symm.trans hJ_2) (rfl))))))))))))
def Xf (a:Za) (b_:Za) (s:Sep) (seconds:Int) (accel:Int) (climb:Int):Int×Int :=
 let r1:=Xl a b_ s seconds accel climb s
 (r1.1,r1.2)
set_option maxRecDepth 100000 in
theorem HZ (a:Za) (b_:Za) (s:Sep) (seconds:Int) (accel:Int) (climb:Int) (w:World):Calls Tryz.prog 24 #[Za.v a,Za.v b_,Sep.v s,.int .i64 seconds,.int .i64 accel,.int .i64 climb] w (Ret w (.tuple #[.int .i64 ((Xf a b_ s seconds accel climb).1),.int .i64 ((Xf a b_ s seconds accel climb).2)])):=by
 exact Zk (vs:=[Za.v a,Za.v b_,Sep.v s,.i seconds,.i accel,.i climb]) (w:=w) Tryz.func24 rfl Tryz.ntmps24 rfl (TC.sr (TL.nw 6 (fun b1=>.p0 b1) (fun b1=>Bk b1 (Za.c a) 44) (fun b1=>{}) (fun b1=>TL.nw 7 (fun b2=>.p0 b2) (fun b2=>Bk b2 (Za.c b_) 44) (fun b2=>{}) (fun b2=>TL.nw 8 (fun b3=>.p0 b3) (fun b3=>Bk b3 (Sep.c s) 62) (fun b3=>{}) (fun b3=>TL.r 5 [] [(12,.i 0),(13,.i 0)] {} (TL.nr (TL.r 7 [2,1,0] [(14,Za.v a),(15,Za.v b_),(16,Sep.v s),(17,.i seconds),(18,.i accel),(19,.i climb),(20,.func (.func 60) #[] #[.p0 b3])] {} (TL.c 21 (Xl a b_ s seconds accel climb s) (fun r1=>.tuple #[.i r1.1,.i r1.2]) (fun w hM=>Ha a b_ s seconds accel climb ⟨b3,0,none⟩ s w (Rd.lit hM 0 _ rfl Kr Kr Kr)) {} (fun r1 hr1=>TL.r 12 [] [(12,.i r1.1),(13,.i r1.2)] {} (TL.next rfl (TC.ret (TE.ret [] (.tuple #[.i r1.1,.i r1.2]) {} (by unfold Xf;refine eS (a:=(r1.1,r1.2)) (fun (z:Int×Int)=>(.tuple #[.i z.1,.i z.2]:Value)) ?_;subst hr1;exact rfl)))))))))))))
end Go.Sky
end
section
namespace Go.Sky
open Go Go.Eng
theorem Jq {a b:Int} (hb:0<b) (ha:-9223372036854775807≤a∧a≤9223372036854775807):Xr a b=(a/b,0):=by
 unfold Xr
 have e0:(b==0)=false:=by simp;omega
 have e1:(a==(-9223372036854775808))=false:=by simp;omega
 have e2:decide (b<0)=false:=by simp;omega
 simp only[e0,e1,e2,Bool.false_and,cond_false]
 by_cases h:0≤a
 ·have e3:decide (a<0)=false:=by simp;omega
  have hw:w64 (a/b)=a/b:=Zn (by have:=Gk h hb;omega)
  simp[e3,VZ b h,hw]
 ·have e3:decide (a<0)=true:=by simp;omega
  have hq:=Gk (a:=-a) (b:=b) (by omega) hb
  have hm:a=b*(a/b)+a%b:=(Int.mul_ediv_add_emod a b).symm
  have hn:-a=b*(-a/b) + -a%b:=(Int.mul_ediv_add_emod (-a) b).symm
  have r1:=Int.emod_nonneg a (show b≠0 by omega)
  have r2:=Int.emod_lt_of_pos a hb
  have r3:=Int.emod_nonneg (-a) (show b≠0 by omega)
  have r4:=Int.emod_lt_of_pos (-a) hb
  rw[e3,CH b (by omega),CJ b (by omega),Zn (x:=-(-a/b)) (by omega)]
  by_cases hz:-a%b=0
  ·have:a/b=-(-a/b):=by
    have h1:a=b*(-(-a/b)):=by rw[Int.mul_neg];omega
    have h2:a/b=-(-a/b):=by
     conv=>lhs;rw[h1]
     exact Int.mul_ediv_cancel_left _ (by omega)
    exact h2
   have e4:((-(-a%b)) != 0)=false:=by rw[hz];rfl
   rw[e4]
   simp only[Bool.false_and,cond_false,this]
  ·have e4:((-(-a%b)) != 0)=true:=by simp;omega
   rw[e4]
   have e5:(true&&!(true==false))=true:=rfl
   rw[e5,cond_true]
   have:a/b=-(-a/b)-1:=by
    rw[Int.ediv_eq_iff_of_pos hb]
    rw[Int.mul_comm]
    constructor
    ·rw[Int.mul_sub,Int.mul_neg];omega
    ·rw[Int.mul_sub,Int.mul_neg];omega
   rw[Zn (by omega),this]
theorem KL {a b:Int} (hb:0<b) (ha:-9223372036854775807≤a∧a≤9223372036854775806):X9 a b=(-(-a/b),0):=by
 unfold X9
 simp only[Jq hb (show -9223372036854775807≤a∧a≤9223372036854775807 by omega),beq_self_eq_true,cond_true]
 have hm:a=b*(a/b)+a%b:=(Int.mul_ediv_add_emod a b).symm
 have r1:=Int.emod_nonneg a (show b≠0 by omega)
 have r2:=Int.emod_lt_of_pos a hb
 have hz:a.tmod b=0↔a%b=0:=by
  rw[← Int.dvd_iff_tmod_eq_zero,← Int.dvd_iff_emod_eq_zero]
 have hle:a/b≤9223372036854775806 ∧ -9223372036854775807≤a/b:=by
  by_cases h:0≤a
  ·have:=Gk h hb;omega
  ·have h1:a≤a/b:=by
    rw[Int.le_ediv_iff_mul_le hb]
    have:a*b≤a*1:=Int.mul_le_mul_of_nonpos_left (by omega) (by omega)
    omega
   have h2:a/b<0:=Int.ediv_neg_of_neg_of_pos (by omega) hb
   omega
 by_cases h:a%b=0
 ·have e:(a.tmod b != 0)=false:=by simpa using hz.2 h
  rw[e,cond_false]
  congr 1
  have h1:-a=b*(-(a/b)):=by rw[Int.mul_neg];omega
  have h2:-a/b=-(a/b):=by
   conv=>lhs;rw[h1]
   exact Int.mul_ediv_cancel_left _ (by omega)
  omega
 ·have e:(a.tmod b != 0)=true:=by simpa using fun hh=>h (hz.1 hh)
  rw[e,cond_true,Zn (by omega)]
  congr 1
  have h2:-a/b=-(a/b)-1:=by
   rw[Int.ediv_eq_iff_of_pos hb,Int.mul_comm]
   constructor
   ·rw[Int.mul_sub,Int.mul_neg];omega
   ·rw[Int.mul_sub,Int.mul_neg];omega
  omega
end Go.Sky
namespace Go.Sky
open Go Go.Eng Go.Glue
def P.In (p:P):Prop:=-1000000≤p.X∧p.X≤1000000 ∧ -1000000≤p.Y∧p.Y≤1000000
def Zg.In (s:Zg):Prop:=(0≤s.Time∧s.Time≤200000)∧s.At.In∧(0≤s.Height∧s.Height≤60000)∧(-1≤s.Code∧s.Code≤4095)∧(0≤s.Error∧s.Error≤1000000)
def Track.In (t:Track):Prop:=(0≤t.Time∧t.Time≤200000)∧t.At.In∧(0≤t.Height∧t.Height≤60000)∧(-1≤t.Code∧t.Code≤4095)∧(0≤t.Radius∧t.Radius≤4000000)
theorem Rj {n a b:Int}:ZI n a b=decide (¬ (a≤n∧n≤b)):=by
 unfold ZI;rw[Bool.eq_iff_iff];simp
theorem Rk (p:P):Y4 p=0∧p.In∨Y4 p=4∧¬ p.In:=by
 unfold Y4 P.In
 rw[YN]
 split
 ·rename_i h;simp at h;exact .inr ⟨rfl,by omega⟩
 ·rename_i h;simp at h;exact .inl ⟨rfl,by omega⟩
theorem KB (s:Zg):Zz s=0∧s.In∨Zz s=4∧¬ s.In:=by
 unfold Zz Zg.In
 simp only[YN,Rj,decide_eq_true_eq]
 split
 ·exact .inr ⟨rfl,fun h=>by omega⟩
 ·rcases Rk s.At with ⟨h1,h2⟩|⟨h1,h2⟩
  ·rw[h1,if_neg (by simp)]
   split
   ·exact .inr ⟨rfl,fun h=>by omega⟩
   ·split
    ·exact .inr ⟨rfl,fun h=>by omega⟩
    ·split
     ·exact .inr ⟨rfl,fun h=>by omega⟩
     ·exact .inl ⟨rfl,by omega,h2,by omega,by omega,by omega⟩
  ·rw[h1,if_pos (by simp)]
   exact .inr ⟨rfl,fun h=>h2 h.2.1⟩
theorem Qr {s:Zg}:Zz s=0↔s.In:=by
 rcases KB s with ⟨h1,h2⟩|⟨h1,h2⟩
 ·exact⟨fun _=>h2,fun _=>h1⟩
 ·exact⟨fun h=>by omega,fun h=>absurd h h2⟩
theorem Vo (t:Track):YE t=0∧t.In∨YE t=4∧¬ t.In:=by
 unfold YE Track.In
 simp only[YN]
 rcases KB ⟨t.Time,t.At,t.Height,t.Code,0⟩ with ⟨h1,h2⟩|⟨h1,h2⟩
 ·rw[h1]
  obtain⟨g1,g2,g3,g4,_⟩:=h2
  split
  ·rename_i h;simp at h;exact .inr ⟨rfl,fun hh=>by omega⟩
  ·rename_i h;simp at h;exact .inl ⟨rfl,g1,g2,g3,g4,by omega⟩
 ·rw[h1,if_pos (by simp)]
  exact .inr ⟨rfl,fun hh=>h2 ⟨hh.1,hh.2.1,hh.2.2.1,hh.2.2.2.1,show (0:Int)≤0∧(0:Int)≤1000000 by decide⟩⟩
theorem JL {x n:Int} (h:-n≤x∧x≤n):0≤x*x∧x*x≤n*n:=by
 constructor
 ·rcases Int.le_total 0 x with h0|h0
  ·exact Int.mul_nonneg h0 h0
  ·rw[← Int.neg_mul_neg];exact Int.mul_nonneg (by omega) (by omega)
 ·by_cases hx:0≤x
  ·exact Int.mul_le_mul h.2 h.2 hx (by omega)
  ·have:(-x)*(-x)≤n*n:=Int.mul_le_mul (by omega) (by omega) (by omega) (by omega)
   rwa [Int.neg_mul_neg] at this
theorem Ut {p q:P} (hp:p.In) (hq:q.In):ZN p q=(p.X-q.X)*(p.X-q.X)+(p.Y-q.Y)*(p.Y-q.Y)∧0≤ZN p q∧ZN p q≤8000000000000:=by
 obtain⟨p1,p2,p3,p4⟩:=hp
 obtain⟨q1,q2,q3,q4⟩:=hq
 have b1:=JL (x:=p.X-q.X) (n:=2000000) (by omega)
 have b2:=JL (x:=p.Y-q.Y) (n:=2000000) (by omega)
 have e:ZN p q=(p.X-q.X)*(p.X-q.X)+(p.Y-q.Y)*(p.Y-q.Y):=by
  show w64 (w64 (w64 (p.X-q.X)*w64 (p.X-q.X))+w64 (w64 (p.Y-q.Y)*w64 (p.Y-q.Y)))=_
  rw[Zn (x:=p.X-q.X) (by omega),Zn (x:=p.Y-q.Y) (by omega),Zn (x:=(p.X-q.X)*(p.X-q.X)) (by omega),Zn (x:=(p.Y-q.Y)*(p.Y-q.Y)) (by omega),Zn (by omega)]
 exact⟨e,by omega,by omega⟩
theorem CM {a b c d R S:Int} (hR:0≤R) (hS:0≤S) (h1:a*a+b*b≤R*R) (h2:c*c+d*d≤S*S):(a+c)*(a+c)+(b+d)*(b+d)≤(R+S)*(R+S):=by
 have key:a*c+b*d≤R*S:=by
  rcases Int.lt_or_le (R*S) (a*c+b*d) with h|h
  ·exfalso
   have hRS:0≤R*S:=Int.mul_nonneg hR hS
   have e1:(a*c+b*d)*(a*c+b*d)+(a*d-b*c)*(a*d-b*c)=(a*a+b*b)*(c*c+d*d):=by grind
   have e2:0≤(a*d-b*c)*(a*d-b*c):=by
    rcases Int.le_total 0 (a*d-b*c) with g|g
    ·exact Int.mul_nonneg g g
    ·rw[← Int.neg_mul_neg];exact Int.mul_nonneg (by omega) (by omega)
   have n1:∀ x:Int,0≤x*x:=fun x=>by
    rcases Int.le_total 0 x with g|g
    ·exact Int.mul_nonneg g g
    ·rw[← Int.neg_mul_neg];exact Int.mul_nonneg (by omega) (by omega)
   have e3:(a*a+b*b)*(c*c+d*d)≤(R*R)*(S*S):=Int.mul_le_mul h1 h2 (by have:=n1 c;have:=n1 d;omega) (n1 R)
   have e4:(R*R)*(S*S)=(R*S)*(R*S):=by grind
   have e5:(R*S+1)*(R*S+1)≤(a*c+b*d)*(a*c+b*d):=Int.mul_le_mul (by omega) (by omega) (by omega) (by omega)
   have e6:(R*S+1)*(R*S+1)=(R*S)*(R*S)+2*(R*S)+1:=by grind
   omega
  ·exact h
 have e7:(a+c)*(a+c)+(b+d)*(b+d)=(a*a+b*b)+(c*c+d*d)+2*(a*c+b*d):=by grind
 have e8:(R+S)*(R+S)=R*R+S*S+2*(R*S):=by grind
 omega
theorem within_iff {p q:P} {d:Int} (hp:p.In) (hq:q.In) (hd:-9000000≤d∧d≤9000000):ZV p q d=decide ((0≤d∧d≤8000000)∧(p.X-q.X)*(p.X-q.X)+(p.Y-q.Y)*(p.Y-q.Y)≤d*d):=by
 have hs:=JL hd
 unfold ZV
 simp only[(Ut hp hq).1,Zn (x:=d*d) (by omega)]
 by_cases h:0≤d∧d≤8000000
 ·have e:((decide (d≥0))&&(decide (d≤8000000)))=true:=by simp;omega
  rw[e,cond_true,Bool.eq_iff_iff];simp only[decide_eq_true_eq]
  exact⟨fun g=>⟨h,g⟩,fun g=>g.2⟩
 ·have e:((decide (d≥0))&&(decide (d≤8000000)))=false:=by simp;omega
  rw[e,cond_false]
  exact(decide_eq_false (fun g=>h g.1)).symm
end Go.Sky
namespace Go.Sky
open Go Go.Eng Go.Glue
def Za.In (f:Za):Prop :=
 f.Track.In∧(-12800≤f.Track.Speed.X∧f.Track.Speed.X≤12800)∧(-12800≤f.Track.Speed.Y∧f.Track.Speed.Y≤12800)∧(-3200≤f.Track.Rate∧f.Track.Rate≤3200)∧(0≤f.Slack∧f.Slack≤409600)
  ∧ (0≤f.Track.ID∧0≤f.Track.Hits∧0≤f.Track.Misses)∧(0≤f.Track.State∧f.Track.State≤2)∧f.Last.In∧f.Last.Time≤f.Track.Time
theorem JW {n a b:Int}:ZX n a b=decide (¬ (a≤n∧n≤b)):=by
 unfold ZX;rw[Bool.eq_iff_iff];simp
theorem FK (f:Za):Zu f=0∧f.In∨(Zu f=1∨Zu f=4∨Zu f=12)∧¬ f.In:=by
 unfold Zu Za.In
 simp only[YN,JW,decide_eq_true_eq]
 rcases Vo f.Track with ⟨h1,h2⟩|⟨h1,h2⟩
 ·rw[h1,if_neg (by simp)]
  split
  ·exact .inr ⟨by simp,fun h=>by omega⟩
  ·split
   ·exact .inr ⟨by simp,fun h=>by omega⟩
   ·split
    ·exact .inr ⟨by simp,fun h=>by omega⟩
    ·split
     ·rename_i h;simp at h;exact .inr ⟨by simp,fun h=>by omega⟩
     ·rename_i h7;simp at h7
      split
      ·exact .inr ⟨by simp,fun h=>by omega⟩
      ·rcases KB f.Last with ⟨h3,h4⟩|⟨h3,h4⟩
       ·rw[h3,if_neg (by simp)]
        split
        ·exact .inr ⟨by simp,fun h=>by omega⟩
        ·exact .inl ⟨rfl,h2,by omega,by omega,by omega,by omega,by omega,by omega,h4,by omega⟩
       ·rw[h3,if_pos (by simp)]
        exact .inr ⟨by simp,fun h=>h4 h.2.2.2.2.2.2.2.1⟩
 ·rw[h1,if_pos (by simp)]
  exact .inr ⟨by simp,fun h=>h2 h.1⟩
theorem XO {f:Za}:Zu f=0↔f.In:=by
 rcases FK f with ⟨h1,h2⟩|⟨h1,h2⟩
 ·exact⟨fun _=>h2,fun _=>h1⟩
 ·exact⟨fun h=>by omega,fun h=>absurd h h2⟩
theorem NW {f:Za} {t a:Int} (h:(Zo f t a).2=0):(Zo f t a).1.In:=by
 unfold Zo at h ⊢
 simp only[YN] at h ⊢
 by_cases h1:(Zu f != 0)=true
 ·rw[if_pos h1] at h;simp at h h1;exact absurd h h1
 ·rw[if_neg h1] at h ⊢
  have hc:f.In:=XO.1 (by simpa using h1)
  by_cases h2:ZX t 0 200000=true
  ·rw[if_pos h2] at h;cases h
  ·rw[if_neg h2] at h ⊢
   by_cases h3:ZX a 0 20=true
   ·rw[if_pos h3] at h;cases h
   ·rw[if_neg h3] at h ⊢
    by_cases h4:ZX (w64 (t-f.Track.Time)) 0 600=true
    ·rw[if_pos h4] at h;cases h
    ·rw[if_neg h4] at h ⊢
     by_cases h5:(w64 (t-f.Track.Time)==0)=true
     ·rw[if_pos h5];exact hc
     ·rw[if_neg h5] at h ⊢
      generalize hg:(⟨⟨f.Track.ID,f.Track.State,t,Qv f.Track.At ⟨ZT (w64 (f.Track.Speed.X*w64 (t-f.Track.Time))) 16,ZT (w64 (f.Track.Speed.Y*w64 (t-f.Track.Time))) 16⟩,f.Track.Speed,Xs (w64 (f.Track.Height+ZT (w64 (f.Track.Rate*w64 (t-f.Track.Time))) 16)) 0 60000,f.Track.Rate,w64 (f.Track.Radius+(Qy f.Slack a (w64 (t-f.Track.Time))).1),f.Track.Code,f.Track.Hits,f.Track.Misses⟩,w64 (f.Slack+w64 (w64 (16*a)*w64 (t-f.Track.Time))),f.Last⟩:Za)=g at h ⊢
      by_cases h6:(Zu g != 0)=true
      ·rw[if_pos h6] at h;cases h
      ·rw[if_neg h6];exact XO.1 (by simpa using h6)
end Go.Sky
end
