/- Lemmas toward the given statement (part 5 of 20): Ka GrowNil Clear Kb Ra Qa SortLib LaysSpot SortSpot. Each theorem states its own conditions; nothing is assumed beyond them. -/
import Derived.Test.YtjggkpkehdnhiaaGreatDoorBp03
import Derived.Test.YtjggkpkehdnhiaaGreatDoorBp04
import Derived.Test.YtjggkpkehdnhiaaGreatDoorBp02
import Derived.Lib.AppendZerosOnto
import Derived.Shelf.SlSortCmp.NoneTotal
import Derived.Shelf.SlLaysF0
import Derived.Test.YtjggkpkehdnhiaaGreatDoorRows
set_option maxRecDepth 100000
section
namespace Go.Sky
open Go Go.Eng Go.Proofs
def JO (r_:ZB):Int :=
 let r1:=Qf r_.Need r_.Of
 cond (r1 != 0) (
  r1) (
  cond ((((((((decide (r_.Misses<0))||(decide (r_.Misses>100)))||(decide (r_.Accel<0)))||(decide (r_.Accel>20)))||(decide (r_.Place<0)))||(decide (r_.Place>256)))||(decide (r_.Speed<0)))||(decide (r_.Speed>256))) (
   4) (
   0))
theorem Bj (r_:ZB) (w:World):Calls Tryz.prog 97 #[ZB.v r_] w (Ret w (.int .i64 (JO r_))):=by
 refine Zp (vs:=[ZB.v r_]) (w:=w) Tryz.func97 rfl Tryz.ntmps97 rfl (Zf (ZA 1 (fun b1=>.p0 b1) (fun b1=>Bk b1 (ZB.c r_) 114) (fun b1=>{}) (fun b1=>Zc 2 [] [(2,.i 0)] {} (Z1 (Zf (Zc 4 [0,0] [(5,.i r_.Need),(7,.i r_.Of)] {} (TL.c 8 (Qf r_.Need r_.Of) (fun r1=>.i r1) (fun w _=>Ur r_.Need r_.Of w) {} (fun r1 hr1=>Zc 6 [] [(3,.i r1)] {} (Zz (Zc 2 [] [(10,.b (r1 != 0))] {} (Zb rfl (TC.cond (r1 != 0) rfl Kr (fun h1=>?_) (fun h1=>?_)))))))))))))
 ·exact Zf (Zc 2 [] [(2,.i r1)] {} (Zb rfl (TC.ret (Zo (TE.ret [] (.i r1) {} (by unfold JO;refine eS (fun z=>(.i z:Value)) ?_;subst hr1;exact Zm h1 (rfl)))))))
 ·refine Yg (TC.seq (Zf (Zc 4 [0] [(15,.b (decide (r_.Misses<0)))] {} (XM 15 (decide (r_.Misses<0)) 8 [] [0] (fun β=>[(19,.b (β||(decide (r_.Misses>100))))]) Kr {} {} (Zc 9 [] [(20,.b ((decide (r_.Misses<0))||(decide (r_.Misses>100))))] {} (XM 20 ((decide (r_.Misses<0))||(decide (r_.Misses>100))) 13 [] [0] (fun β=>[(24,.b (β||(decide (r_.Accel<0))))]) Kr {} {} (Zc 14 [] [(25,.b (((decide (r_.Misses<0))||(decide (r_.Misses>100)))||(decide (r_.Accel<0))))] {} (XM 25 (((decide (r_.Misses<0))||(decide (r_.Misses>100)))||(decide (r_.Accel<0))) 18 [] [0] (fun β=>[(29,.b (β||(decide (r_.Accel>20))))]) Kr {} {} (Zc 19 [] [(30,.b ((((decide (r_.Misses<0))||(decide (r_.Misses>100)))||(decide (r_.Accel<0)))||(decide (r_.Accel>20))))] {} (XM 30 ((((decide (r_.Misses<0))||(decide (r_.Misses>100)))||(decide (r_.Accel<0)))||(decide (r_.Accel>20))) 23 [] [0] (fun β=>[(34,.b (β||(decide (r_.Place<0))))]) Kr {} {} (Zc 24 [] [(35,.b (((((decide (r_.Misses<0))||(decide (r_.Misses>100)))||(decide (r_.Accel<0)))||(decide (r_.Accel>20)))||(decide (r_.Place<0))))] {} (XM 35 (((((decide (r_.Misses<0))||(decide (r_.Misses>100)))||(decide (r_.Accel<0)))||(decide (r_.Accel>20)))||(decide (r_.Place<0))) 28 [] [0] (fun β=>[(39,.b (β||(decide (r_.Place>256))))]) Kr {} {} (Zc 29 [] [(40,.b ((((((decide (r_.Misses<0))||(decide (r_.Misses>100)))||(decide (r_.Accel<0)))||(decide (r_.Accel>20)))||(decide (r_.Place<0)))||(decide (r_.Place>256))))] {} (XM 40 ((((((decide (r_.Misses<0))||(decide (r_.Misses>100)))||(decide (r_.Accel<0)))||(decide (r_.Accel>20)))||(decide (r_.Place<0)))||(decide (r_.Place>256))) 33 [] [0] (fun β=>[(44,.b (β||(decide (r_.Speed<0))))]) Kr {} {} (Zc 34 [] [(45,.b (((((((decide (r_.Misses<0))||(decide (r_.Misses>100)))||(decide (r_.Accel<0)))||(decide (r_.Accel>20)))||(decide (r_.Place<0)))||(decide (r_.Place>256)))||(decide (r_.Speed<0))))] {} (XM 45 (((((((decide (r_.Misses<0))||(decide (r_.Misses>100)))||(decide (r_.Accel<0)))||(decide (r_.Accel>20)))||(decide (r_.Place<0)))||(decide (r_.Place>256)))||(decide (r_.Speed<0))) 38 [] [0] (fun β=>[(49,.b (β||(decide (r_.Speed>256))))]) Kr {} {} (Zb rfl (TC.cond ((((((((decide (r_.Misses<0))||(decide (r_.Misses>100)))||(decide (r_.Accel<0)))||(decide (r_.Accel>20)))||(decide (r_.Place<0)))||(decide (r_.Place>256)))||(decide (r_.Speed<0)))||(decide (r_.Speed>256))) rfl Kr (fun h2=>?_) (fun h2=>?_)))))))))))))))))))
  ·exact Zf (Zc 1 [] [(2,.i 4)] {} (Zb rfl (TC.ret (Zo (TE.ret [] (.i 4) {} (by unfold JO;refine eS (fun z=>(.i z:Value)) ?_;subst hr1;exact Ze h1 (Zm h2 (rfl))))))))
  ·exact Yc (Zc 1 [] [(2,.i 0)] {} (Zb rfl (TC.ret (TE.ret [] (.i 0) {} (by unfold JO;refine eS (fun z=>(.i z:Value)) ?_;subst hr1;exact Ze h1 (Ze h2 (rfl)))))))
def Y7 (r_:ZB):Zi×Int :=
 let r1:=JO r_
 cond (r1 != 0) (
  (Zi.zero,0)) (
  ((⟨r_,([]:List followed),0,(-1)⟩:Zi),0))
theorem Wp (r_:ZB) (w:World) (hM:Sat ⟨w,XR []⟩ [] w) (hc:JO r_=0):Calls Tryz.prog 43 #[ZB.v r_] w (JH (Γ:=Nat×(Option Addr×Nat)) ⟨w,XR []⟩ (fun g=>.tuple #[.pointer (some ⟨g.1,0,none⟩),.int .i64 ((Y7 r_).2)]) (fun g=>[.inl (g.1,.cells (Zi.k (⟨⟨((Y7 r_).1).rules.Need,((Y7 r_).1).rules.Of,((Y7 r_).1).rules.Misses,((Y7 r_).1).rules.Accel,((Y7 r_).1).rules.Place,((Y7 r_).1).rules.Speed⟩,((Y7 r_).1).all,((Y7 r_).1).next,((Y7 r_).1).last⟩:Zi) g.2.1 g.2.2) 118 (0,0)),.inr (Own g.2.1 g.2.2 122 23 ((((Y7 r_).1).all).map followed.c))])):=by
 refine YS (w0:=⟨w,XR []⟩) (vs:=[ZB.v r_]) hM Tryz.func43 rfl Tryz.ntmps43 rfl (Zf (ZA 1 (fun b1=>.p0 b1) (fun b1=>Bk b1 (ZB.c r_) 114) (fun b1=>{}) (fun b1=>Zc 3 [] [(2,.pointer none),(3,.i 0)] {} (Z1 (Zf (Zc 1 [0] [(5,ZB.v r_)] {} (TL.c 6 (JO r_) (fun r1=>.i r1) (fun w _=>Bj r_ w) {} (fun r1 hr1=>Zc 3 [] [(4,.i r1)] {} (Zz (Zc 2 [] [(8,.b (r1 != 0))] {} (Zb rfl (TC.cond (r1 != 0) rfl Kr (fun h1=>?_) (fun h1=>?_)))))))))))))
 ·exact((by rw[hc] at hr1;subst hr1;cases h1):False).elim
 ·refine Yc (Zc 2 [0] [(11,.agg #[.i r_.Need,.i r_.Of,.i r_.Misses,.i r_.Accel,.i r_.Place,.i r_.Speed,.slice none 0 0,.i 0,.i (-1)])] {} (ZA 12 (fun b2=>.p0 b2) (fun b2=>Bk b2 (Zi.k (⟨r_,[],0,(-1)⟩:Zi) none 0) 118) (fun b2=>{}) (fun b2=>Zc 5 [] [(2,.p0 b2),(3,.i 0)] {} (Zb rfl (TC.ret (Yi [Ow none 0 122 23 (([]:List followed).map followed.c),Bk b2 (Zi.k (⟨r_,[],0,(-1)⟩:Zi) none 0) 118,Bk b1 (ZB.c r_) 114] (fun _ hM=>hM.emptyrow none 122 23) (Yi [Ow none 0 122 23 (([]:List followed).map followed.c),Bk b2 (Zi.k (⟨r_,([]:List followed),0,(-1)⟩:Zi) none 0) 118,Bk b1 (ZB.c r_) 114] (fun _ hM=>hM) ?_)))))))
  have e:Y7 r_=((⟨r_,([]:List followed),0,(-1)⟩:Zi),0):=by subst hr1;unfold Y7;exact Ze h1 (rfl)
  refine Yi [Bk b2 (Zi.k (⟨r_,([]:List followed),0,(-1)⟩:Zi) none 0) 118,Ow none 0 122 23 (([]:List followed).map followed.c),Bk b1 (ZB.c r_) 114] (fun _ hM=>hM.perm (px [1,0,2])) ?_
  rw[e]
  exact ZO (.inl rfl) (b2,(none,0)) [] (.tuple #[.p0 b2,.i 0]) {} rfl (fun _ hM=>hM.sub (sb 3))
def Xj (time:Int):List Zj→Nat→((Unit) ⊕ (Int))
 | [],_=>.inl ()
 | x::xs,k=>let r1:=ZG x
  cond (r1 != 0) (
   .inr r1) (
   cond (x.Time != time) (
    .inr 12) (
    Xj time xs (k+1)))
def Yf (t:Zi) (l:List Zj) (time:Int):Int :=
 cond (decide ((l.length:Int)>32)) (
  2) (
  cond ((decide (time<0))||(decide (time>200000))) (
   4) (
   cond (decide (time≤t.last)) (
    12) (
    Sum.elim (fun _ =>
     0) (fun r=>r) (Xj time l 0))))
set_option maxHeartbeats 4000000 in
theorem UE (a_t:Addr) (t:Zi) (A_t_all:Option Addr) (qf:Nat) (A_l:Option Addr) (c_l:Nat) (l:List Zj) (time:Int) (w:World) (h_t:Rd w 9 (some a_t) [#[.int .i64 t.rules.Need,.int .i64 t.rules.Of,.int .i64 t.rules.Misses,.int .i64 t.rules.Accel,.int .i64 t.rules.Place,.int .i64 t.rules.Speed,.slice A_t_all t.all.length qf,.int .i64 t.next,.int .i64 t.last]]) (vn:Rd w 23 A_t_all (t.all.map followed.c)) (_hl_t_all:t.all.length≤qf) (h_l:Rd w 6 A_l (l.map Zj.c)) (_hc_l:l.length≤c_l):Calls Tryz.prog 50 #[.pointer (some a_t),.slice A_l l.length c_l,.int .i64 time] w (Ret w (.int .i64 (Yf t l time))):=by
 have kp:=vn.short;rw[aD] at kp
 have s_l:=h_l.short;rw[aD] at s_l
 refine Zp (vs:=[.pointer (some a_t),.slice A_l l.length c_l,.i time]) (w:=w) Tryz.func50 rfl Tryz.ntmps50 rfl (Zf (Zc 1 [] [(6,.i 0)] {} (Z1 (TC.block (Zf (Zc 4 [] [(10,.b (decide ((l.length:Int)>32)))] {} (Zb rfl (TC.cond (decide ((l.length:Int)>32)) rfl Kr (fun h1=>?_) (fun h1=>?_)))))))))
 ·refine Zf (Zc 1 [] [(6,.i 2)] {} (Zb rfl (TC.ret (ZL (Zo ?_)))))
  exact TE.ret [] (.i 2) {} (by unfold Yf;refine eS (fun z=>(.i z:Value)) ?_;exact Zm h1 (rfl))
 ·have vm:=(Zv h1)
  refine Zf (Zc 3 [] [(17,.b (decide (time<0)))] {} (XM 17 (decide (time<0)) 6 [] [] (fun β=>[(20,.b (β||(decide (time>200000))))]) Kr {} {} (Zc 7 [] [(14,.b ((decide (time<0))||(decide (time>200000))))] {} (Zb rfl (TC.cond ((decide (time<0))||(decide (time>200000))) rfl Kr (fun h2=>?_) (fun h2=>?_))))))
  ·refine Zf (Zc 1 [] [(6,.i 4)] {} (Zb rfl (TC.ret (ZL (Zo ?_)))))
   exact TE.ret [] (.i 4) {} (by unfold Yf;refine eS (fun z=>(.i z:Value)) ?_;exact Ze h1 (Zm h2 (rfl)))
  ·have k9:=(Zv (Z2 h2))
   have ox:=(Zv (Ye h2))
   refine Zf (Zc 4 [] [(22,.i time),(25,.pointer (some (a_t.add 8)))] {} (TL.v (sV (Instr.loadAt 3 (.pointer (some (a_t.add 8))))) 26 (.i t.last) (fun w hM=>Zu (off:=8) (.i t.last) (h_t.sat hM) (XU _) Kr Kr) {} (Zc 7 [] [(21,.b (decide (time≤t.last)))] {} (Zb rfl (TC.cond (decide (time≤t.last)) rfl Kr (fun h3=>?_) (fun h3=>?_))))))
   ·refine Zf (Zc 1 [] [(6,.i 12)] {} (Zb rfl (TC.ret (ZL (Zo ?_)))))
    exact TE.ret [] (.i 12) {} (by unfold Yf;refine eS (fun z=>(.i z:Value)) ?_;exact Ze h1 (Ze h2 (Zm h3 (rfl))))
   ·have y2:=(Zv h3)
    refine TC.skip (ZY (Z3 (TC.seq (Zf (Zc 3 [] [(28,.slice A_l l.length c_l),(29,.i (l.length:Int)),(30,.i 0)] {} (Zb rfl ?_))))))
    obtain⟨R1,hR⟩:∃ R,R=Xj time l 0:=⟨_,rfl⟩
    refine TC.cut (S:=Unit) (fun (_:Unit)=>[]) (fun (_:Unit)=>[]) (fun (_:Unit)=>R1=.inl ()) ?_ ?_
    ·refine TC.block (Xp (X:=Nat) (fun k=>[(2,.i time),(28,.slice A_l l.length c_l),(29,.i (l.length:Int)),(30,.i (k:Int))]) (fun k=>[]) (fun k=>l.length-k) (fun k=>k≤l.length∧R1=Xj time (l.drop k) k) ?_ 0 ⟨aP _,hR⟩ Kr (sb 0))
     rintro k ⟨hk,hI⟩
     refine Zf (Zc 1 [] [(31,.b (decide ((k:Int)<(l.length:Int))))] {} (Z1 (TC.cond (decide ((k:Int)<(l.length:Int))) rfl Kr (fun h4=>?_) (fun h4=>?_))))
     ·have hlt:=ltN h4
      obtain⟨x,hx⟩:=elN hlt
      have hd:=drop_at hx
      refine Yg (TC.seq (TC.block (Zf (TL.v (sV (Instr.indexAt 52 (.slice A_l l.length c_l) (.i (k:Int)))) 32 (.pointer (some (Ix A_l (k*6)))) (fun w hM=>Zr (h_l.sat hM) (by simp) Kr sd sd) {} (TL.v (sV (Instr.loadAt 42 (.pointer (some (Ix A_l (k*6)))))) 33 (Zj.v x) (fun w hM=>Z9 (n:=6) (off:=0) (i:=k) (Zj.v x) (h_l.sat hM) (Z6 hx) Kr Kr Kr) {} (ZA 8 (fun b1=>.p0 b1) (fun b1=>Bk b1 (Zj.c Zj.zero) 42) (fun b1=>{}) (fun b1=>Yp 0 (Bk b1 (Zj.c x) 42) (fun _=>{}) (Z1 (Zf (Zc 1 [0] [(34,Zj.v x)] {} (TL.c 35 (ZG x) (fun r1=>.i r1) (fun w _=>XX x w) {} (fun r1 hr1=>Zc 3 [] [(9,.i r1)] {} (Zz (Zc 2 [] [(37,.b (r1 != 0))] {} (Zb rfl (TC.cond (r1 != 0) rfl Kr (fun h5=>?_) (fun h5=>?_)))))))))))))))))
      ·refine Zf (Zc 2 [] [(6,.i r1)] {} (Zb rfl (TC.ret (Zo (ZL (Zo (Zo (ZL (Zo (Zo ?_))))))))))
       exact TE.ret [] (.i r1) {} (by unfold Yf;refine eS (fun z=>(.i z:Value)) ?_;subst hr1;exact Ze h1 (Ze h2 (Ze h3 (Xh (hR.symm.trans (hI.trans (by rw[hd];exact Zm h5 (rfl)))) rfl))))
      ·have uf:=(QA h5)
       refine Yc (Zc 4 [0] [(42,.b (x.Time != time))] {} (Zb rfl (TC.cond (x.Time != time) rfl Kr (fun h6=>?_) (fun h6=>?_))))
       ·refine Zf (Zc 1 [] [(6,.i 12)] {} (Zb rfl (TC.ret (ZL (Zo (Zo (ZL (Zo (Zo ?_)))))))))
        exact TE.ret [] (.i 12) {} (by unfold Yf;refine eS (fun z=>(.i z:Value)) ?_;subst hr1;exact Ze h1 (Ze h2 (Ze h3 (Xh (hR.symm.trans (hI.trans (by rw[hd];exact Ze h5 (Zm h6 (rfl))))) rfl))))
       ·have y3:=(QA h6)
        exact TC.skip (ZY (Z3 (TC.region (Zc 2 [] [(30,.i (w64 ((k:Int)+1)))] {} (Zw rfl (TE.rw 30 (.i (w64 ((k:Int)+1))) (.i ((k+1:Nat):Int)) Kr (ZD k (by omega)) (Z4 (x:=k) (k+1) ⟨by omega,hI.trans (by subst hr1;rw[hd];exact Ze h5 (Ze h6 (rfl)))⟩ (mN hlt) Kr (sb 0))))))))
     ·have hd:=Qb h4
      refine TC.exit (ZT (ZT (Z0 ?_)))
      exact TE.cut () (hI.trans (by rw[hd];exact rfl)) Kr (sb 0)
    ·intro _ hJ
     exact YC (Zc 1 [] [(6,.i 0)] {} (Zb rfl (TC.ret (TE.ret [] (.i 0) {} (by unfold Yf;refine eS (fun z=>(.i z:Value)) ?_;exact Ze h1 (Ze h2 (Ze h3 (Q3 (hR.symm.trans hJ) (rfl)))))))))
def YW:List followed→Nat→(List Za)→(List Za)
 | [],_,out=>out
 | x::xs,k,out=>YW xs (k+1) (out++([x.f]))
def X3 (t:Zi):List Za :=
 YB (YW t.all 0 ([]:List Za)) (fun qk =>
  qk)
theorem U3 (a_t:Addr) (t:Zi) (A_t_all:Option Addr) (qf:Nat) (w:World) (h_t:Rd w 9 (some a_t) [#[.int .i64 t.rules.Need,.int .i64 t.rules.Of,.int .i64 t.rules.Misses,.int .i64 t.rules.Accel,.int .i64 t.rules.Place,.int .i64 t.rules.Speed,.slice A_t_all t.all.length qf,.int .i64 t.next,.int .i64 t.last]]) (vn:Rd w 23 A_t_all (t.all.map followed.c)) (_hl_t_all:t.all.length≤qf) (hn:t.all.length≤64):Calls Tryz.prog 18 #[.pointer (some a_t)] w (JH (Γ:=(Option Addr×Nat)) (cx w) (fun g=>.slice g.1 ((X3 t).length) g.2) (fun g=>[.inr (Own g.1 g.2 44 20 ((X3 t).map Za.c))])):=by
 have kp:=vn.short;rw[aD] at kp
 refine Zp (vs:=[.pointer (some a_t)]) (w:=w) Tryz.func18 rfl Tryz.ntmps18 rfl (Zf (Zc 1 [] [(2,.slice none 0 0)] {} (Zz (Zc 1 [] [(3,.slice none 0 0)] {} (Z1 (Zf (Zc 3 [] [(8,.pointer (some (a_t.add 6)))] {} (TL.v (sV (Instr.loadAt 116 (.pointer (some (a_t.add 6))))) 9 (.slice A_t_all t.all.length qf) (fun w hM=>Zu (off:=6) (.slice A_t_all t.all.length qf) (h_t.sat hM) (XU _) Kr Kr) {} (Zc 6 [] [(10,.i (t.all.length:Int)),(11,.i 0)] {} (Zb rfl (Q0 [Ow none 0 44 20 (([]:List Za).map Za.c)] (fun _ hM=>hM.emptyrow none 44 20) ?_)))))))))))
 obtain⟨R2,hR⟩:∃ R,R=YW t.all 0 ([]:List Za):=⟨_,rfl⟩
 refine TC.cut (S:=(List Za)×(Option Addr)×Nat) (fun (qk,A_out_2,qe)=>[(3,.slice A_out_2 qk.length qe)]) (fun (qk,A_out_2,qe)=>[Ow A_out_2 qe 44 20 (qk.map Za.c)]) (fun (qk,A_out_2,qe)=>R2=qk∧qk.length≤t.all.length) ?_ ?_
 ·refine TC.block (Xp (X:=Nat×(List Za)×(Option Addr)×Nat) (fun (k,out,A_out,qh)=>[(3,.slice A_out out.length qh),(9,.slice A_t_all t.all.length qf),(10,.i (t.all.length:Int)),(11,.i (k:Int))]) (fun (k,out,A_out,qh)=>[Ow A_out qh 44 20 (out.map Za.c)]) (fun (k,out,A_out,qh)=>t.all.length-k) (fun (k,out,A_out,qh)=>k≤t.all.length∧R2=YW (t.all.drop k) k out∧out.length≤k) ?_ (0,([]:List Za),none,0) ⟨aP _,hR,sz⟩ Kr (sb 1))
  rintro⟨k,out,A_out,qh⟩ ⟨hk,hI,kn⟩
  refine Zf (Zc 1 [] [(12,.b (decide ((k:Int)<(t.all.length:Int))))] {} (Z1 (TC.cond (decide ((k:Int)<(t.all.length:Int))) rfl Kr (fun h1=>?_) (fun h1=>?_))))
  ·have hlt:=ltN h1
   obtain⟨x,hx⟩:=elN hlt
   have hd:=drop_at hx
   refine Yg (TC.seq (TC.block (Zf (TL.v (sV (Instr.indexAt 116 (.slice A_t_all t.all.length qf) (.i (k:Int)))) 13 (.pointer (some (Ix A_t_all (k*23)))) (fun w hM=>Zr (vn.sat hM) (by simp) Kr sd sd) {} (TL.v (sV (Instr.loadAt 122 (.pointer (some (Ix A_t_all (k*23)))))) 14 (followed.v x) (fun w hM=>Z9 (n:=23) (off:=0) (i:=k) (followed.v x) (vn.sat hM) (Z6 hx) Kr Kr Kr) {} (ZA 5 (fun b1=>.p0 b1) (fun b1=>Bk b1 (followed.c followed.zero) 122) (fun b1=>{}) (fun b1=>Yp 0 (Bk b1 (followed.c x) 122) (fun _=>{}) (Zb rfl (TC.region (Zc 3 [0] [(15,.slice A_out out.length qh),(17,Za.v x.f)] {} (ZA 18 (fun b2=>.slice (Pa b2) 1 1) (fun b2=>Bk b2 (Za.c x.f) 44) (fun b2=>{}) (fun b2=>TL.os (Γ:=AN) (sV (Builtin.append_ #[31,31] 31 #[.slice A_out out.length qh,.slice (Pa b2) 1 1])) 19 (fun g=>.slice g.1 (out++([x.f])).length g.2) 2 (fun g=>Ow g.1 g.2 44 20 ((out++([x.f])).map Za.c)) (QE (bytes:=160) 31 2 ([x.f]) Kr rfl rfl Za.one rfl (fun w hM=>(Rd.lit hM 0 _ rfl Kr Kr Kr)) rfl sa) {} ?_))))))))))))
   rintro⟨A,c⟩
   exact Zc 6 [] [(3,.slice A ((out++([x.f])).length) c)] {} (Zw rfl (ZY (Z3 (TC.region (Zc 2 [] [(11,.i (w64 ((k:Int)+1)))] {} (Zw rfl (TE.rw 11 (.i (w64 ((k:Int)+1))) (.i ((k+1:Nat):Int)) Kr (ZD k (by omega)) (Z4 (x:=(k,out,A_out,qh)) (k+1,(out++([x.f])),A,c) ⟨by omega,hI.trans (by rw[hd];exact rfl),sl⟩ (mN hlt) Kr (sb 4)))))))))
  ·have hd:=Qb h1
   refine TC.exit (ZT (ZT (Z0 ?_)))
   exact TE.cut (out,A_out,qh) (⟨hI.trans (by rw[hd];exact rfl),sl⟩) Kr (sb 1)
 ·rintro⟨qk,A_out_2,qe⟩ ⟨hJ,jw⟩
  refine YC (Zc 2 [] [(2,.slice A_out_2 qk.length qe)] {} (Zb rfl (TC.ret ?_)))
  have e:X3 t=qk:=by unfold X3;exact Yr (hR.symm.trans hJ) (rfl)
  rw[e]
  exact ZO (.inl rfl) (A_out_2,qe) [] (.slice A_out_2 qk.length qe) {} rfl (fun _ hM=>hM.sub (sb 1))
def QF (t:Zi) (time:Int):List followed→Nat→(List Za)→(List Za)
 | [],_,out=>out
 | x::xs,k,out=>let r1:=Z5 x.f time t.rules.Accel
  cond (r1.2==0) (
   QF t time xs (k+1) (out++([r1.1]))) (
   QF t time xs (k+1) out)
def X4 (t:Zi) (time:Int):List Za×Int :=
 cond ((decide (time<0))||(decide (time>200000))) (
  ([],4)) (
  cond (decide (time<t.last)) (
   ([],12)) (
   YB (QF t time t.all 0 ([]:List Za)) (fun qk =>
    (qk,0))))
set_option maxHeartbeats 4000000 in
theorem Lt (a_t:Addr) (t:Zi) (A_t_all:Option Addr) (qf:Nat) (time:Int) (w:World) (h_t:Rd w 9 (some a_t) [#[.int .i64 t.rules.Need,.int .i64 t.rules.Of,.int .i64 t.rules.Misses,.int .i64 t.rules.Accel,.int .i64 t.rules.Place,.int .i64 t.rules.Speed,.slice A_t_all t.all.length qf,.int .i64 t.next,.int .i64 t.last]]) (vn:Rd w 23 A_t_all (t.all.map followed.c)) (_hl_t_all:t.all.length≤qf) (hn:t.all.length≤64):Calls Tryz.prog 14 #[.pointer (some a_t),.int .i64 time] w (JH (Γ:=(Option Addr×Nat)) (cx w) (fun g=>.tuple #[.slice g.1 ((X4 t time).1.length) g.2,.int .i64 ((X4 t time).2)]) (fun g=>[.inr (Own g.1 g.2 44 20 (((X4 t time).1).map Za.c))])):=by
 have kp:=vn.short;rw[aD] at kp
 refine Zp (vs:=[.pointer (some a_t),.i time]) (w:=w) Tryz.func14 rfl Tryz.ntmps14 rfl (Zf (Zc 2 [] [(4,.slice none 0 0),(5,.i 0)] {} (Z1 (TC.block (Zf (Zc 3 [] [(14,.b (decide (time<0)))] {} (XM 14 (decide (time<0)) 6 [] [] (fun β=>[(17,.b (β||(decide (time>200000))))]) Kr {} {} (Zc 7 [] [(11,.b ((decide (time<0))||(decide (time>200000))))] {} (Zb rfl (TC.cond ((decide (time<0))||(decide (time>200000))) rfl Kr (fun h1=>?_) (fun h1=>?_)))))))))))
 ·refine Zf (Zc 2 [] [(4,.slice none 0 0),(5,.i 4)] {} (Zb rfl (TC.ret (ZL (Zo ?_)))))
  have e:X4 t time=([],4):=by unfold X4;exact Zm h1 (rfl)
  refine Yi [Ow none 0 44 20 (([]:List Za).map Za.c)] (fun _ hM=>hM.emptyrow none 44 20) ?_
  rw[e]
  exact ZO (.inl rfl) (none,0) [] (.tuple #[.slice none 0 0,.i 4]) {} rfl (fun _ hM=>hM.sub (sb 1))
 ·have vm:=(Zv (Z2 h1))
  have rq:=(Zv (Ye h1))
  refine Zf (Zc 4 [] [(19,.i time),(22,.pointer (some (a_t.add 8)))] {} (TL.v (sV (Instr.loadAt 3 (.pointer (some (a_t.add 8))))) 23 (.i t.last) (fun w hM=>Zu (off:=8) (.i t.last) (h_t.sat hM) (XU _) Kr Kr) {} (Zc 7 [] [(18,.b (decide (time<t.last)))] {} (Zb rfl (TC.cond (decide (time<t.last)) rfl Kr (fun h2=>?_) (fun h2=>?_))))))
  ·refine Zf (Zc 2 [] [(4,.slice none 0 0),(5,.i 12)] {} (Zb rfl (TC.ret (ZL (Zo ?_)))))
   have e:X4 t time=([],12):=by unfold X4;exact Ze h1 (Zm h2 (rfl))
   refine Yi [Ow none 0 44 20 (([]:List Za).map Za.c)] (fun _ hM=>hM.emptyrow none 44 20) ?_
   rw[e]
   exact ZO (.inl rfl) (none,0) [] (.tuple #[.slice none 0 0,.i 12]) {} rfl (fun _ hM=>hM.sub (sb 1))
  ·have k9:=(Zv h2)
   refine TC.skip (ZY (YC (Zc 1 [] [(6,.slice none 0 0)] {} (Z1 (Zf (Zc 3 [] [(27,.pointer (some (a_t.add 6)))] {} (TL.v (sV (Instr.loadAt 116 (.pointer (some (a_t.add 6))))) 28 (.slice A_t_all t.all.length qf) (fun w hM=>Zu (off:=6) (.slice A_t_all t.all.length qf) (h_t.sat hM) (XU _) Kr Kr) {} (Zc 6 [] [(29,.i (t.all.length:Int)),(30,.i 0)] {} (Zb rfl (Q0 [Ow none 0 44 20 (([]:List Za).map Za.c)] (fun _ hM=>hM.emptyrow none 44 20) ?_))))))))))
   obtain⟨R4,hR⟩:∃ R,R=QF t time t.all 0 ([]:List Za):=⟨_,rfl⟩
   refine TC.cut (S:=(List Za)×(Option Addr)×Nat) (fun (qk,A_out_2,qe)=>[(6,.slice A_out_2 qk.length qe)]) (fun (qk,A_out_2,qe)=>[Ow A_out_2 qe 44 20 (qk.map Za.c)]) (fun (qk,A_out_2,qe)=>R4=qk∧qk.length≤t.all.length) ?_ ?_
   ·refine TC.block (Xp (X:=Nat×(List Za)×(Option Addr)×Nat) (fun (k,out,A_out,qh)=>[(0,.pointer (some a_t)),(1,.i time),(6,.slice A_out out.length qh),(28,.slice A_t_all t.all.length qf),(29,.i (t.all.length:Int)),(30,.i (k:Int))]) (fun (k,out,A_out,qh)=>[Ow A_out qh 44 20 (out.map Za.c)]) (fun (k,out,A_out,qh)=>t.all.length-k) (fun (k,out,A_out,qh)=>k≤t.all.length∧R4=QF t time (t.all.drop k) k out∧out.length≤k) ?_ (0,([]:List Za),none,0) ⟨aP _,hR,sz⟩ Kr (sb 1))
    rintro⟨k,out,A_out,qh⟩ ⟨hk,hI,kn⟩
    refine Zf (Zc 1 [] [(31,.b (decide ((k:Int)<(t.all.length:Int))))] {} (Z1 (TC.cond (decide ((k:Int)<(t.all.length:Int))) rfl Kr (fun h3=>?_) (fun h3=>?_))))
    ·have hlt:=ltN h3
     obtain⟨x,hx⟩:=elN hlt
     have hd:=drop_at hx
     refine Yg (TC.seq (TC.block (Zf (TL.v (sV (Instr.indexAt 116 (.slice A_t_all t.all.length qf) (.i (k:Int)))) 32 (.pointer (some (Ix A_t_all (k*23)))) (fun w hM=>Zr (vn.sat hM) (by simp) Kr sd sd) {} (TL.v (sV (Instr.loadAt 122 (.pointer (some (Ix A_t_all (k*23)))))) 33 (followed.v x) (fun w hM=>Z9 (n:=23) (off:=0) (i:=k) (followed.v x) (vn.sat hM) (Z6 hx) Kr Kr Kr) {} (ZA 8 (fun b1=>.p0 b1) (fun b1=>Bk b1 (followed.c followed.zero) 122) (fun b1=>{}) (fun b1=>Yp 0 (Bk b1 (followed.c x) 122) (fun _=>{}) (Z1 ?_))))))))
     obtain⟨r1,hr1⟩:∃ r,Z5 x.f time t.rules.Accel=r:=⟨_,rfl⟩
     let Mr9_:Mem:=[Bk b1 (followed.c x) 122,Ow A_out qh 44 20 (out.map Za.c)]
     refine Jm (G:=Nat) (base:=[(0,.pointer (some a_t)),(1,.i time),(6,.slice A_out out.length qh),(8,.p0 b1),(28,.slice A_t_all t.all.length qf),(29,.i (t.all.length:Int)),(30,.i (k:Int))]) (vals:=fun γ=>[.p0 b1,Za.v x.f,.i time,.pointer (some a_t),.pointer (some a_t),.pointer (some a_t),.pointer (some (a_t.add 3)),.i t.rules.Accel,.tuple #[Za.v r1.1,.i r1.2],.tuple #[Za.v r1.1,.i r1.2],Za.v r1.1,.i r1.2,.p0 γ,undef,.i r1.2]) (writes:=[12,13]) (mem:=fun bs γ=>match bs with | [y5,x13_]=>(bif x13_ then [Bk γ (Za.c r1.1) 44] else bif y5 then [Bk γ (Za.c Za.zero) 44] else [])++(Mr9_)|_=>[]) (0) (fun γ=>[(0,.pointer (some a_t)),(1,.i time),(6,.slice A_out out.length qh),(9,.p0 γ),(10,.i r1.2),(28,.slice A_t_all t.all.length qf),(29,.i (t.all.length:Int)),(30,.i (k:Int))]) Kr Kr Kr Kr Kr (fun γ=>Kr) (fun _ hM=>hM) (fun γ=>Kr) ?_ ?_
     ·skip
      exact Steps.run (i:=0) 7 [0,0,0,0,0,0,0] Mr9_ Kr Kr (fun S (γ:Nat) w hM=>by rw[mS2 rfl rfl] at hM;exact hM.sub (Zl (aB _))) Kr (fun (γ:Nat)=>{}) (XB (i:=7) (fun (γ:Nat)=>sV (Instr.loadAt 3 (.pointer (some (a_t.add 3))))) (some 42) (fun (γ:Nat)=>.i t.rules.Accel) (fun _=>Mr9_) Kr (fun S (γ:Nat) w _ hM=>by rw[mS2 rfl rfl] at hM;exact hM.sub (Zl (aB _))) (fun (γ:Nat) w hM=>Zu (off:=3) (.i t.rules.Accel) (h_t.sat hM) (XU _) Kr Kr) (fun (γ:Nat)=>Kr) (fun (γ:Nat)=>Kr) (Steps.call (i:=8) 45 (fun (γ:Nat)=>#[Za.v x.f,.i time,.i t.rules.Accel]) (some 43) (fun (γ:Nat)=>.tuple #[Za.v r1.1,.i r1.2]) (fun (γ:Nat)=>[Bk b1 (followed.c x) 122,Ow A_out qh 44 20 (out.map Za.c)]) Kr (fun S (γ:Nat) w _ hM=>by rw[mS2 rfl rfl] at hM;exact hM.sub (Zl (aB _))) (fun (γ:Nat) w _=>by have h:=Vy x.f time t.rules.Accel w;rw[hr1] at h;exact h) (fun (γ:Nat)=>Kr) (fun (γ:Nat)=>Kr) (Steps.run (i:=9) 12 [0,0,0] Mr9_ Kr Kr (fun S (γ:Nat) w hM=>by rw[mS2 rfl rfl] at hM;exact hM.sub (Zl (aB _))) Kr (fun (γ:Nat)=>{}) (Steps.op (i:=12) (Γ:=Nat) (fun g (γ:Nat)=>g) (fun _=>[]) (fun b (γ:Nat)=>[Bk b (Za.c Za.zero) 44]) (fun S (γ:Nat)=>Mr9_) [12,13,14] (fun (γ:Nat)=>sV (Instr.alloc 44 true (.tuple #[]))) (some 9) (fun b (γ:Nat)=>.p0 b) (fun S (γ:Nat) hj hd hl=>by rw[mS2 hj (hl 13 Kr)];exact aC _) (fun S (γ:Nat) g hl=>by rw[mS2 (S:=upS S 12) (a0:=12) (a1:=13) rfl (hl 13 Kr)];exact(aC _).symm) (fun (γ:Nat) M' w hM=>Q4 (v:=fun b=>.p0 b) (fun b M=>Kr) M' w hM) (fun (γ:Nat)=>Kr) (fun (γ:Nat) g=>Kr) Kr (fun (γ:Nat) g=>Kr) (Steps.put (i:=13) (fun (γ:Nat)=>[Bk γ (Za.c Za.zero) 44]) (fun (γ:Nat)=>[Bk γ (Za.c r1.1) 44]) (fun S (γ:Nat)=>Mr9_) (fun (γ:Nat)=>sU (Instr.storeAt 44 (.p0 γ) (Za.v r1.1))) none (fun S (γ:Nat) hj hd hl=>by rw[mS2 (hd 12 Kr) hj];exact aC _) (fun S (γ:Nat) _=>(aC _).symm) (fun (γ:Nat) M' w hM=>JB (fun b M=>Kr) (fun b M=>Kr) M' w hM) (fun (γ:Nat)=>Kr) (fun (γ:Nat)=>Kr) (Steps.run (i:=14) 15 [0] Mr9_ Kr Kr (fun S (γ:Nat) w hM=>by rw[mS2 rfl rfl] at hM;exact hM.sub (Zl (aB _))) Kr (fun (γ:Nat)=>{}) (X6 Kr)))))))
     ·rintro b2
      refine Yi [Bk b2 (Za.c r1.1) 44,Bk b1 (followed.c x) 122,Ow A_out qh 44 20 (out.map Za.c)] (fun _ hM=>hM) (YC (Zc 2 [] [(47,.b (r1.2==0))] {} (Zb rfl (TC.cond (r1.2==0) rfl Kr (fun h4=>?_) (fun h4=>?_)))))
      ·have yq:=(YT h4)
       refine TC.region (Zc 2 [0] [(48,.slice A_out out.length qh),(49,Za.v r1.1)] {} (ZA 50 (fun b3=>.slice (Pa b3) 1 1) (fun b3=>Bk b3 (Za.c r1.1) 44) (fun b3=>{}) (fun b3=>TL.os (Γ:=AN) (sV (Builtin.append_ #[31,31] 31 #[.slice A_out out.length qh,.slice (Pa b3) 1 1])) 51 (fun g=>.slice g.1 (out++([r1.1])).length g.2) 3 (fun g=>Ow g.1 g.2 44 20 ((out++([r1.1])).map Za.c)) (QE (bytes:=160) 31 3 ([r1.1]) Kr rfl rfl Za.one rfl (fun w hM=>(Rd.lit hM 0 _ rfl Kr Kr Kr)) rfl sa) {} ?_)))
       rintro⟨A,c⟩
       exact Zc 5 [] [(6,.slice A ((out++([r1.1])).length) c)] {} (Zw rfl (ZY (Z3 (TC.region (Zc 2 [] [(30,.i (w64 ((k:Int)+1)))] {} (Zw rfl (TE.rw 30 (.i (w64 ((k:Int)+1))) (.i ((k+1:Nat):Int)) Kr (ZD k (by omega)) (Z4 (x:=(k,out,A_out,qh)) (k+1,(out++([r1.1])),A,c) ⟨by omega,hI.trans (by subst hr1;rw[hd];exact Zm h4 (rfl)),sl⟩ (mN hlt) Kr (sb 8)))))))))
      ·have yq:=(Yl h4)
       exact TC.skip (ZY (Z3 (TC.region (Zc 2 [] [(30,.i (w64 ((k:Int)+1)))] {} (Zw rfl (TE.rw 30 (.i (w64 ((k:Int)+1))) (.i ((k+1:Nat):Int)) Kr (ZD k (by omega)) (Z4 (x:=(k,out,A_out,qh)) (k+1,out,A_out,qh) ⟨by omega,hI.trans (by subst hr1;rw[hd];exact Ze h4 (rfl)),sl⟩ (mN hlt) Kr (sb 4))))))))
    ·have hd:=Qb h3
     refine TC.exit (ZT (ZT (Z0 ?_)))
     exact TE.cut (out,A_out,qh) (⟨hI.trans (by rw[hd];exact rfl),sl⟩) Kr (sb 1)
   ·rintro⟨qk,A_out_2,qe⟩ ⟨hJ,jw⟩
    refine YC (Zc 3 [] [(4,.slice A_out_2 qk.length qe),(5,.i 0)] {} (Zb rfl (TC.ret ?_)))
    have e:X4 t time=(qk,0):=by unfold X4;exact Ze h1 (Ze h2 (Yr (hR.symm.trans hJ) (rfl)))
    rw[e]
    exact ZO (.inl rfl) (A_out_2,qe) [] (.tuple #[.slice A_out_2 qk.length qe,.i 0]) {} rfl (fun _ hM=>hM.sub (sb 1))
def Z7 (t:Zi):List followed→Nat→(List followed)→(List followed)
 | [],_,stay=>stay
 | x::xs,k,stay=>cond (x.f.Track.State==0) (
   let r1:=JM x.history x.hit t.rules.Need t.rules.Of
   cond (r1.2.1==2) (
    Z7 t xs (k+1) stay) (
    cond (r1.2.1==1) (
     Z7 t xs (k+1) (stay++([(⟨⟨⟨x.f.Track.ID,1,x.f.Track.Time,x.f.Track.At,x.f.Track.Speed,x.f.Track.Height,x.f.Track.Rate,x.f.Track.Radius,x.f.Track.Code,x.f.Track.Hits,x.f.Track.Misses⟩,x.f.Slack,x.f.Last⟩,r1.1,x.hit⟩:followed)]))) (
     Z7 t xs (k+1) (stay++([(⟨x.f,r1.1,x.hit⟩:followed)]))))) (
   Z7 t xs (k+1) (stay++([x])))
def Z8 (t:Zi):Zi :=
 YB (Z7 t t.all 0 ([]:List followed)) (fun vo =>
  (⟨t.rules,vo,t.next,t.last⟩:Zi))
theorem Uk (b_t:Nat) (t:Zi) (A_t_all:Option Addr) (qf:Nat) (w:World) (hM:Sat ⟨w,XR [.inl (b_t,.cells (Zi.k t A_t_all qf) 118 (0,0)),.inr (Own A_t_all qf 122 23 (t.all.map followed.c))]⟩ [.inl (b_t,.cells (Zi.k t A_t_all qf) 118 (0,0)),.inr (Own A_t_all qf 122 23 (t.all.map followed.c))] w) (hn:t.all.length≤64):Calls Tryz.prog 57 #[.pointer (some ⟨b_t,0,none⟩)] w (JH (Γ:=(Option Addr×Nat)) ⟨w,XR [.inl (b_t,.cells (Zi.k t A_t_all qf) 118 (0,0)),.inr (Own A_t_all qf 122 23 (t.all.map followed.c))]⟩ (fun _=>.tuple #[]) (fun g=>[.inl (b_t,.cells (Zi.k (⟨⟨(Z8 t).rules.Need,(Z8 t).rules.Of,(Z8 t).rules.Misses,(Z8 t).rules.Accel,(Z8 t).rules.Place,(Z8 t).rules.Speed⟩,(Z8 t).all,(Z8 t).next,(Z8 t).last⟩:Zi) g.1 g.2) 118 (0,0)),.inr (Own g.1 g.2 122 23 (((Z8 t).all).map followed.c))])):=by
 refine YS (w0:=⟨w,XR [Bk b_t (Zi.k t A_t_all qf) 118,Ow A_t_all qf 122 23 (t.all.map followed.c)]⟩) (vs:=[.p0 b_t]) hM Tryz.func57 rfl Tryz.ntmps57 rfl (Gn (fun w hM=>hM.short_at 1 rfl) (fun kp=>Zf (Zc 1 [] [(2,.slice none 0 0)] {} (Z1 (Zf (Zc 6 [0] [(11,.slice A_t_all t.all.length qf),(12,.i (t.all.length:Int)),(13,.i 0)] {} (Zb rfl (Q0 [Ow none 0 122 23 (([]:List followed).map followed.c),Bk b_t (Zi.k t A_t_all qf) 118,Ow A_t_all qf 122 23 (t.all.map followed.c)] (fun _ hM=>hM.emptyrow none 122 23) ?_))))))))
 obtain⟨R2,hR⟩:∃ R,R=Z7 t t.all 0 ([]:List followed):=⟨_,rfl⟩
 refine TC.cut (S:=(List followed)×(Option Addr)×Nat) (fun (vo,A_stay_2,j5)=>[(0,.p0 b_t),(2,.slice A_stay_2 vo.length j5)]) (fun (vo,A_stay_2,j5)=>[Ow A_stay_2 j5 122 23 (vo.map followed.c),Bk b_t (Zi.k t A_t_all qf) 118,Ow A_t_all qf 122 23 (t.all.map followed.c)]) (fun (vo,A_stay_2,j5)=>R2=vo∧vo.length≤t.all.length) ?_ ?_
 ·refine TC.block (Xp (X:=Nat×(List followed)×(Option Addr)×Nat) (fun (k,stay,A_stay,xz)=>[(0,.p0 b_t),(2,.slice A_stay stay.length xz),(11,.slice A_t_all t.all.length qf),(12,.i (t.all.length:Int)),(13,.i (k:Int))]) (fun (k,stay,A_stay,xz)=>[Ow A_stay xz 122 23 (stay.map followed.c),Bk b_t (Zi.k t A_t_all qf) 118,Ow A_t_all qf 122 23 (t.all.map followed.c)]) (fun (k,stay,A_stay,xz)=>t.all.length-k) (fun (k,stay,A_stay,xz)=>k≤t.all.length∧R2=Z7 t (t.all.drop k) k stay∧stay.length≤k) ?_ (0,([]:List followed),none,0) ⟨aP _,hR,sz⟩ Kr (sb 7))
  rintro⟨k,stay,A_stay,xz⟩ ⟨hk,hI,oa⟩
  refine Zf (Zc 1 [] [(14,.b (decide ((k:Int)<(t.all.length:Int))))] {} (Z1 (TC.cond (decide ((k:Int)<(t.all.length:Int))) rfl Kr (fun h1=>?_) (fun h1=>?_))))
  ·have hlt:=ltN h1
   obtain⟨x,hx⟩:=elN hlt
   have hd:=drop_at hx
   refine Yg (TC.seq (TC.block (Zf (TL.v (sV (Instr.indexAt 116 (.slice A_t_all t.all.length qf) (.i (k:Int)))) 15 (.pointer (some (Ix A_t_all (k*23)))) (fun w hM=>Zr (hM.rd_at 2 rfl) (by simp) Kr sd sd) {} (TL.v (sV (Instr.loadAt 122 (.pointer (some (Ix A_t_all (k*23)))))) 16 (followed.v x) (fun w hM=>Z9 (n:=23) (off:=0) (i:=k) (followed.v x) (hM.rd_at 2 rfl) (Z6 hx) Kr Kr Kr) {} (ZA 4 (fun b1=>.p0 b1) (fun b1=>Bk b1 (followed.c followed.zero) 122) (fun b1=>{}) (fun b1=>Yp 0 (Bk b1 (followed.c x) 122) (fun _=>{}) (Z1 (Zf (Zc 5 [0] [(21,.b (x.f.Track.State==0))] {} (Zb rfl (TC.cond (x.f.Track.State==0) rfl Kr (fun h2=>?_) (fun h2=>?_)))))))))))))
   ·have k9:=(YT h2)
    refine TC.seq ?_
    obtain⟨r1,hr1⟩:∃ r,JM x.history x.hit t.rules.Need t.rules.Of=r:=⟨_,rfl⟩
    let Mr5_:Mem:=[Bk b1 (followed.c x) 122,Ow A_stay xz 122 23 (stay.map followed.c),Bk b_t (Zi.k t A_t_all qf) 118,Ow A_t_all qf 122 23 (t.all.map followed.c)]
    refine Jm (G:=Nat) (base:=[(0,.p0 b_t),(2,.slice A_stay stay.length xz),(4,.p0 b1),(11,.slice A_t_all t.all.length qf),(12,.i (t.all.length:Int)),(13,.i (k:Int))]) (vals:=fun γ=>[.pt b1 20,Zg.v x.history,.pt b1 22,.b x.hit,.p0 b_t,.p0 b_t,.p0 b_t,.p0 b_t,.i t.rules.Need,.p0 b_t,.p0 b_t,.p0 b_t,.pt b_t 1,.i t.rules.Of,.tuple #[Zg.v r1.1,.i r1.2.1,.i r1.2.2],.tuple #[Zg.v r1.1,.i r1.2.1,.i r1.2.2],Zg.v r1.1,.i r1.2.1,.i r1.2.2,.p0 γ,undef,.i r1.2.1,.i r1.2.2]) (writes:=[19,20]) (mem:=fun bs γ=>match bs with | [x19_,x20_]=>(bif x20_ then [Bk γ (Zg.c r1.1) 120] else bif x19_ then [Bk γ (Zg.c Zg.zero) 120] else [])++(Mr5_)|_=>[]) (0) (fun γ=>[(0,.p0 b_t),(2,.slice A_stay stay.length xz),(4,.p0 b1),(5,.p0 γ),(6,.i r1.2.1),(11,.slice A_t_all t.all.length qf),(12,.i (t.all.length:Int)),(13,.i (k:Int))]) Kr Kr Kr Kr Kr (fun γ=>Kr) (fun _ hM=>hM) (fun γ=>Kr) ?_ ?_
    ·skip
     exact Steps.run (i:=0) 14 [0,0,0,0,0,0,0,0,2,0,0,0,0,2] Mr5_ Kr Kr (fun S (γ:Nat) w hM=>by rw[mS2 rfl rfl] at hM;exact hM.sub (Zl (aB _))) Kr (fun (γ:Nat)=>{}) (Steps.call (i:=14) 113 (fun (γ:Nat)=>#[Zg.v x.history,.b x.hit,.i t.rules.Need,.i t.rules.Of]) (some 37) (fun (γ:Nat)=>.tuple #[Zg.v r1.1,.i r1.2.1,.i r1.2.2]) (fun (γ:Nat)=>[Bk b1 (followed.c x) 122,Ow A_stay xz 122 23 (stay.map followed.c),Bk b_t (Zi.k t A_t_all qf) 118,Ow A_t_all qf 122 23 (t.all.map followed.c)]) Kr (fun S (γ:Nat) w _ hM=>by rw[mS2 rfl rfl] at hM;exact hM.sub (Zl (aB _))) (fun (γ:Nat) w _=>by have h:=N4 x.history x.hit t.rules.Need t.rules.Of w;rw[hr1] at h;exact h) (fun (γ:Nat)=>Kr) (fun (γ:Nat)=>Kr) (Steps.run (i:=15) 19 [0,0,0,0] Mr5_ Kr Kr (fun S (γ:Nat) w hM=>by rw[mS2 rfl rfl] at hM;exact hM.sub (Zl (aB _))) Kr (fun (γ:Nat)=>{}) (Steps.op (i:=19) (Γ:=Nat) (fun g (γ:Nat)=>g) (fun _=>[]) (fun b (γ:Nat)=>[Bk b (Zg.c Zg.zero) 120]) (fun S (γ:Nat)=>Mr5_) [19,20,21,22] (fun (γ:Nat)=>sV (Instr.alloc 120 true (.tuple #[]))) (some 5) (fun b (γ:Nat)=>.p0 b) (fun S (γ:Nat) hj hd hl=>by rw[mS2 hj (hl 20 Kr)];exact aC _) (fun S (γ:Nat) g hl=>by rw[mS2 (S:=upS S 19) (a0:=19) (a1:=20) rfl (hl 20 Kr)];exact(aC _).symm) (fun (γ:Nat) M' w hM=>Q4 (v:=fun b=>.p0 b) (fun b M=>Kr) M' w hM) (fun (γ:Nat)=>Kr) (fun (γ:Nat) g=>Kr) Kr (fun (γ:Nat) g=>Kr) (Steps.put (i:=20) (fun (γ:Nat)=>[Bk γ (Zg.c Zg.zero) 120]) (fun (γ:Nat)=>[Bk γ (Zg.c r1.1) 120]) (fun S (γ:Nat)=>Mr5_) (fun (γ:Nat)=>sU (Instr.storeAt 120 (.p0 γ) (Zg.v r1.1))) none (fun S (γ:Nat) hj hd hl=>by rw[mS2 (hd 19 Kr) hj];exact aC _) (fun S (γ:Nat) _=>(aC _).symm) (fun (γ:Nat) M' w hM=>JB (fun b M=>Kr) (fun b M=>Kr) M' w hM) (fun (γ:Nat)=>Kr) (fun (γ:Nat)=>Kr) (Steps.run (i:=21) 23 [0,0] Mr5_ Kr Kr (fun S (γ:Nat) w hM=>by rw[mS2 rfl rfl] at hM;exact hM.sub (Zl (aB _))) Kr (fun (γ:Nat)=>{}) (X6 Kr))))))
    ·rintro b2
     refine Yi [Bk b2 (Zg.c r1.1) 120,Bk b1 (followed.c x) 122,Ow A_stay xz 122 23 (stay.map followed.c),Bk b_t (Zi.k t A_t_all qf) 118,Ow A_t_all qf 122 23 (t.all.map followed.c)] (fun _ hM=>hM) (YC (Zc 2 [0] [(41,Zg.v r1.1),(42,.pt b1 20)] {} (Yp 1 (Bk b1 (followed.c (⟨x.f,r1.1,x.hit⟩:followed)) 122) (fun _=>{}) (Z1 (Zf (Zc 2 [] [(44,.b (r1.2.1==2))] {} (Zb rfl (TC.cond (r1.2.1==2) rfl Kr (fun h3=>?_) (fun h3=>?_)))))))))
     ·have y2:=(YT h3)
      refine TC.exit (ZT (ZT (Z0 ?_)))
      exact Z3 (TC.region (Zc 2 [] [(13,.i (w64 ((k:Int)+1)))] {} (Zw rfl (TE.rw 13 (.i (w64 ((k:Int)+1))) (.i ((k+1:Nat):Int)) Kr (ZD k (by omega)) (Z4 (x:=(k,stay,A_stay,xz)) (k+1,stay,A_stay,xz) ⟨by omega,hI.trans (by subst hr1;rw[hd];exact Zm h2 (Zm h3 (rfl))),sl⟩ (mN hlt) Kr (sb 28))))))
     ·have y2:=(Yl h3)
      refine Yc (Zc 2 [] [(46,.b (r1.2.1==1))] {} (Zb rfl (TC.cond (r1.2.1==1) rfl Kr (fun h4=>?_) (fun h4=>?_))))
      ·have yq:=(YT h4)
       refine TC.region (Zc 3 [] [(49,.pt b1 1)] {} (Yp 1 (Bk b1 (followed.c (⟨⟨⟨x.f.Track.ID,1,x.f.Track.Time,x.f.Track.At,x.f.Track.Speed,x.f.Track.Height,x.f.Track.Rate,x.f.Track.Radius,x.f.Track.Code,x.f.Track.Hits,x.f.Track.Misses⟩,x.f.Slack,x.f.Last⟩,r1.1,x.hit⟩:followed)) 122) (fun _=>{}) (Zb rfl (TC.region (Zc 2 [1] [(50,.slice A_stay stay.length xz),(51,followed.v (⟨⟨⟨x.f.Track.ID,1,x.f.Track.Time,x.f.Track.At,x.f.Track.Speed,x.f.Track.Height,x.f.Track.Rate,x.f.Track.Radius,x.f.Track.Code,x.f.Track.Hits,x.f.Track.Misses⟩,x.f.Slack,x.f.Last⟩,r1.1,x.hit⟩:followed))] {} (ZA 52 (fun b3=>.slice (Pa b3) 1 1) (fun b3=>Bk b3 (followed.c (⟨⟨⟨x.f.Track.ID,1,x.f.Track.Time,x.f.Track.At,x.f.Track.Speed,x.f.Track.Height,x.f.Track.Rate,x.f.Track.Radius,x.f.Track.Code,x.f.Track.Hits,x.f.Track.Misses⟩,x.f.Slack,x.f.Last⟩,r1.1,x.hit⟩:followed)) 122) (fun b3=>{}) (fun b3=>TL.os (Γ:=AN) (sV (Builtin.append_ #[116,116] 116 #[.slice A_stay stay.length xz,.slice (Pa b3) 1 1])) 53 (fun g=>.slice g.1 (stay++([(⟨⟨⟨x.f.Track.ID,1,x.f.Track.Time,x.f.Track.At,x.f.Track.Speed,x.f.Track.Height,x.f.Track.Rate,x.f.Track.Radius,x.f.Track.Code,x.f.Track.Hits,x.f.Track.Misses⟩,x.f.Slack,x.f.Last⟩,r1.1,x.hit⟩:followed)])).length g.2) 3 (fun g=>Ow g.1 g.2 122 23 ((stay++([(⟨⟨⟨x.f.Track.ID,1,x.f.Track.Time,x.f.Track.At,x.f.Track.Speed,x.f.Track.Height,x.f.Track.Rate,x.f.Track.Radius,x.f.Track.Code,x.f.Track.Hits,x.f.Track.Misses⟩,x.f.Slack,x.f.Last⟩,r1.1,x.hit⟩:followed)])).map followed.c)) (QE (bytes:=184) 116 3 ([(⟨⟨⟨x.f.Track.ID,1,x.f.Track.Time,x.f.Track.At,x.f.Track.Speed,x.f.Track.Height,x.f.Track.Rate,x.f.Track.Radius,x.f.Track.Code,x.f.Track.Hits,x.f.Track.Misses⟩,x.f.Slack,x.f.Last⟩,r1.1,x.hit⟩:followed)]) Kr rfl rfl followed.one rfl (fun w hM=>(Rd.lit hM 0 _ rfl Kr Kr Kr)) rfl sa) {} ?_)))))))
       rintro⟨A,c⟩
       exact Zc 5 [] [(2,.slice A ((stay++([(⟨⟨⟨x.f.Track.ID,1,x.f.Track.Time,x.f.Track.At,x.f.Track.Speed,x.f.Track.Height,x.f.Track.Rate,x.f.Track.Radius,x.f.Track.Code,x.f.Track.Hits,x.f.Track.Misses⟩,x.f.Slack,x.f.Last⟩,r1.1,x.hit⟩:followed)])).length) c)] {} (Zw rfl (ZY (Z3 (TC.region (Zc 2 [] [(13,.i (w64 ((k:Int)+1)))] {} (Zw rfl (TE.rw 13 (.i (w64 ((k:Int)+1))) (.i ((k+1:Nat):Int)) Kr (ZD k (by omega)) (Z4 (x:=(k,stay,A_stay,xz)) (k+1,(stay++([(⟨⟨⟨x.f.Track.ID,1,x.f.Track.Time,x.f.Track.At,x.f.Track.Speed,x.f.Track.Height,x.f.Track.Rate,x.f.Track.Radius,x.f.Track.Code,x.f.Track.Hits,x.f.Track.Misses⟩,x.f.Slack,x.f.Last⟩,r1.1,x.hit⟩:followed)])),A,c) ⟨by omega,hI.trans (by subst hr1;rw[hd];exact Zm h2 (Ze h3 (Zm h4 (rfl)))),sl⟩ (mN hlt) Kr (sb 56)))))))))
      ·have yq:=(Yl h4)
       refine Yg (TC.region (Zc 2 [1] [(50,.slice A_stay stay.length xz),(51,followed.v (⟨x.f,r1.1,x.hit⟩:followed))] {} (ZA 52 (fun b4=>.slice (Pa b4) 1 1) (fun b4=>Bk b4 (followed.c (⟨x.f,r1.1,x.hit⟩:followed)) 122) (fun b4=>{}) (fun b4=>TL.os (Γ:=AN) (sV (Builtin.append_ #[116,116] 116 #[.slice A_stay stay.length xz,.slice (Pa b4) 1 1])) 53 (fun g=>.slice g.1 (stay++([(⟨x.f,r1.1,x.hit⟩:followed)])).length g.2) 3 (fun g=>Ow g.1 g.2 122 23 ((stay++([(⟨x.f,r1.1,x.hit⟩:followed)])).map followed.c)) (QE (bytes:=184) 116 3 ([(⟨x.f,r1.1,x.hit⟩:followed)]) Kr rfl rfl followed.one rfl (fun w hM=>(Rd.lit hM 0 _ rfl Kr Kr Kr)) rfl sa) {} ?_))))
       rintro⟨A_2,c_2⟩
       exact Zc 5 [] [(2,.slice A_2 ((stay++([(⟨x.f,r1.1,x.hit⟩:followed)])).length) c_2)] {} (Zw rfl (ZY (Z3 (TC.region (Zc 2 [] [(13,.i (w64 ((k:Int)+1)))] {} (Zw rfl (TE.rw 13 (.i (w64 ((k:Int)+1))) (.i ((k+1:Nat):Int)) Kr (ZD k (by omega)) (Z4 (x:=(k,stay,A_stay,xz)) (k+1,(stay++([(⟨x.f,r1.1,x.hit⟩:followed)])),A_2,c_2) ⟨by omega,hI.trans (by subst hr1;rw[hd];exact Zm h2 (Ze h3 (Ze h4 (rfl)))),sl⟩ (mN hlt) Kr (sb 56)))))))))
   ·have k9:=(Yl h2)
    refine Yg (TC.region (Zc 2 [0] [(50,.slice A_stay stay.length xz),(51,followed.v x)] {} (ZA 52 (fun b5=>.slice (Pa b5) 1 1) (fun b5=>Bk b5 (followed.c x) 122) (fun b5=>{}) (fun b5=>TL.os (Γ:=AN) (sV (Builtin.append_ #[116,116] 116 #[.slice A_stay stay.length xz,.slice (Pa b5) 1 1])) 53 (fun g=>.slice g.1 (stay++([x])).length g.2) 2 (fun g=>Ow g.1 g.2 122 23 ((stay++([x])).map followed.c)) (QE (bytes:=184) 116 2 ([x]) Kr rfl rfl followed.one rfl (fun w hM=>(Rd.lit hM 0 _ rfl Kr Kr Kr)) rfl sa) {} ?_))))
    rintro⟨A_3,c_3⟩
    exact Zc 5 [] [(2,.slice A_3 ((stay++([x])).length) c_3)] {} (Zw rfl (ZY (Z3 (TC.region (Zc 2 [] [(13,.i (w64 ((k:Int)+1)))] {} (Zw rfl (TE.rw 13 (.i (w64 ((k:Int)+1))) (.i ((k+1:Nat):Int)) Kr (ZD k (by omega)) (Z4 (x:=(k,stay,A_stay,xz)) (k+1,(stay++([x])),A_3,c_3) ⟨by omega,hI.trans (by rw[hd];exact Ze h2 (rfl)),sl⟩ (mN hlt) Kr (sb 28)))))))))
  ·have hd:=Qb h1
   refine TC.exit (ZT (ZT (Z0 ?_)))
   exact TE.cut (stay,A_stay,xz) (⟨hI.trans (by rw[hd];exact rfl),sl⟩) Kr (sb 7)
 ·rintro⟨vo,A_stay_2,j5⟩ ⟨hJ,mg⟩
  refine Z3 (TC.region (Zc 4 [] [(56,.slice A_stay_2 vo.length j5),(58,.pt b_t 6)] {} (Yp 1 (Bk b_t (Zi.k (⟨t.rules,vo,t.next,t.last⟩:Zi) A_stay_2 j5) 118) (fun _=>{}) (Zw rfl ?_))))
  have e:Z8 t=(⟨t.rules,vo,t.next,t.last⟩:Zi):=by unfold Z8;exact Yr (hR.symm.trans hJ) (rfl)
  refine Yi [Bk b_t (Zi.k (⟨t.rules,vo,t.next,t.last⟩:Zi) A_stay_2 j5) 118,Ow A_stay_2 j5 122 23 (vo.map followed.c),Ow A_t_all qf 122 23 (t.all.map followed.c)] (fun _ hM=>hM.perm (px [1,0,2])) ?_
  rw[e]
  exact ZO (.inr rfl) (A_stay_2,j5) [] (.tuple #[]) {} rfl (fun _ hM=>hM.sub (sb 3))
end Go.Sky
end
section
namespace Go.Eng
open Go.RowKit (Below)
theorem Am {g:Option Addr} {c sz:Nat}:(if c=0 then g else g.map (fun a=>a.add (0*sz)))=g:=by
 split
 ·rfl
 ·cases g with
  | none=>rfl
  | some a=>rw[eX];rfl
end Go.Eng
end
section
namespace Go.Eng
theorem BO (z:Array Value) (n:Nat):(Builtin.zeroCells z n).toList=flat (List.replicate n z):=by
 rw[← F9]
 unfold Builtin.zeroCells madeCells
 apply fJ
 intro j
 by_cases hj:j<n*z.size
 ·have h0:0<z.size:=by rcases bX z.size with h|h;(rw[h] at hj;omega);exact h
  have da:=fE j h0
  simp[hj,da]
 ·rw[cR (by simp;omega)]
theorem N5 {α:Type} {c:α→Array Value} (h1:∀ x,(c x).toList.all Value.oneCell'=true) (l:List α):∀ v∈flat (l.map c),v.oneCell'=true:=by
 intro v hv
 simp only[flat,eL,List.mem_flatten,bD] at hv
 obtain⟨r,⟨x,_,rfl⟩,hr⟩:=hv
 exact bF.1 (h1 x) v hr
theorem WQ {α:Type} {c:α→Array Value} {P:Program} {w0:Ctx} {M:Mem} {t e sz bytes cap:Nat} {A A1:Option Addr} {l:List α} (x:α) (j k cap1 n ty:Nat) (hT:GH P t e sz bytes=true)
  (hz:((P.info? e).bind (·.zero)).map Value.cells=some (c x)) (h1:∀ x,(c x).toList.all Value.oneCell'=true) (hj:M[j]?=some (.inr (Own A cap e sz (l.map c)))) (hA:A1=if cap=k then A else A.map (fun a=>a.add (k*sz)))
  (hn:n=l.length-k) (hk:k≤l.length) (w:World) (hM:Sat w0 M w) :
  ∃ (_:Unit) (w':World),(sV (Builtin.clear_ #[t] ty #[.slice A1 n cap1])).run P w=.ok (.value (.tuple #[])) w'∧Sat w0 (M.set j (.inr (Own A cap e sz ((l.take k++List.replicate (l.length-k) x).map c)))) w':=by
 subst hn
 obtain⟨hu,i,zv,hi,hzv,hs1,hs2,hs3⟩:=UQ hT
 have hz':zv.cells=c x:=by simpa[hi,hzv] using hz
 have hzero:(zeroValue e).run P w=.ok zv w:=by simp[zeroValue,typeInfo,hi,hzv]
 have hlen:(l.map c).length=l.length:=by simp
 have ho:=hM.own_at j hj
 rcases gE k l.length with hkl|hkl
 ·rcases ho with ⟨_,h0⟩|⟨g,cur,ho⟩
  ·have:l=[]:=by simpa using h0
   subst this;simp at hkl
  ·have hAt:=ho.at_;subst hAt
   have hle:=ho.le;rw[hlen] at hle
   rw[if_neg (by omega)] at hA
   have hA1:A1=some ⟨g,k*sz,none⟩:=by rw[hA,cU,V3]
   obtain⟨m,hm⟩:∃ m,l.length-k=m+1:=⟨l.length-k-1,by omega⟩
   have jl:∀ r∈List.replicate (l.length-k) (c x),r.size=sz:=fun r hr=>by rw[fD hr,← hz',hs3]
   have hzs:(Builtin.zeroCells zv.cells (l.length-k)).toList=flat (List.replicate (l.length-k) (c x)):=by rw[BO,hz']
   have hfl:(flat (List.replicate (l.length-k) (c x))).length=(l.length-k)*sz:=by rw[JA _ jl,bA]
   have hsz:=ho.size
   have hlk:k*sz+(l.length-k)*sz=l.length*sz:=by rw[← dF];congr 1;omega
   have hcs:l.length*sz≤cur.size:=by rw[hsz];exact bS _ hle
   have lf:∀ v∈flat (List.replicate (l.length-k) (c x)),v.oneCell'=true:=by
    have:=N5 h1 (List.replicate (l.length-k) x)
    rwa [fF] at this
   have hst:=run_storeCells_at P g (k*sz) e (flat (List.replicate (l.length-k) (c x))) 0 cur w ho.heap (by omega) lf
   refine⟨(),w.setRow g (List.take (k*sz+0) cur.toList++flat (List.replicate (l.length-k) (c x))++List.drop (k*sz+0+(flat (List.replicate (l.length-k) (c x))).length) cur.toList).toArray,Bt ?_,
    hM.step hj ⟨rfl,rfl,rfl,by simp[World.setRow],fun k' _ hk'=>setRow_other w g k' _ (fun e=>hk' ⟨ho.pos,_,rfl,e.symm⟩),aU _⟩ ?_ (fun b hb=>.inl hb)⟩
   ·rw[hA1]
    rw[hm] at hst hzs ⊢
    simp[Builtin.clear_,run_underlying hu,hzero,hzs,hst]
   ·refine .inr ⟨g,_,rfl,ho.pos,setRow_heap w g cur _ e _ ho.heap,?_,ho.max,?_,?_,?_,?_⟩
    ·simp;omega
    ·simp only[eV,aW,aZ,aH,bC,hfl];omega
    ·have h6:=ho.holds
     rw[hlen] at h6
     have hL:((l.take k++List.replicate (l.length-k) x).map c).length*sz=l.length*sz:=by congr 1;simp;omega
     have hf1:flat ((l.take k++List.replicate (l.length-k) x).map c)=(flat (l.map c)).take (k*sz)++flat (List.replicate (l.length-k) (c x)):=by
      rw[eN,Uo,fF,Hy _ _ ho.each,fQ]
     rw[hL,hf1,← h6]
     simp only[bZ]
     rw[HM _ _ _ _ (by omega) (by rw[bC];omega)]
     rw[cJ (by rw[aZ,hfl];omega),bU]
    ·intro r hr
     simp only[eN,bO,fF] at hr
     rcases hr with hr|hr
     ·exact ho.each r (by rw[fQ] at hr;exact List.mem_of_mem_take hr)
     ·exact jl r hr
    ·have:=ho.short
     simp at this ⊢;omega
 ·have hk0:l.length-k=0:=by omega
  rw[hk0]
  refine⟨(),w,Bt ?_,?_⟩
  ·cases A1 <;> simp[Builtin.clear_,run_underlying hu]
  ·rw[List.replicate_zero,bU,cA hkl]
   have:M.set j (.inr (Own A cap e sz (l.map c)))=M:=by
    obtain⟨hlt,he⟩:=aK.1 hj
    rw[← he];exact List.set_getElem_self hlt
   rw[this];exact hM
end Go.Eng
end
section
namespace Go.Sky
open Go Go.Eng Go.Proofs
def X8 (f:Za) (x:followed):Bool :=
 f.Track.ID==x.f.Track.ID
theorem VY (f:Za) (a_x:Addr) (x:followed) (w:World) (h_x:Rd w 23 (some a_x) [followed.c x]):Calls Tryz.prog 118 #[Za.v f,.pointer (some a_x)] w (Ret w (.bool (X8 f x))):=by
 exact Zp (vs:=[Za.v f,.pointer (some a_x)]) (w:=w) Tryz.func118 rfl Tryz.ntmps118 rfl (Zf (ZA 2 (fun b1=>.p0 b1) (fun b1=>Bk b1 (Za.c f) 44) (fun b1=>{}) (fun b1=>Zc 2 [] [(3,.b false)] {} (Zz (Zc 6 [0] [(6,.i f.Track.ID),(9,.pointer (some a_x))] {} (TL.v (sV (Instr.loadAt 3 (.pointer (some a_x)))) 10 (.i x.f.Track.ID) (fun w hM=>Zu (off:=0) (.i x.f.Track.ID) (h_x.sat hM) (XU _) Kr Kr) {} (Zc 9 [] [(3,.b (f.Track.ID==x.f.Track.ID))] {} (Zb rfl (TC.ret (TE.ret [] (.b (f.Track.ID==x.f.Track.ID)) {} (by unfold X8;refine eS (fun z=>(.b z:Value)) ?_;exact rfl)))))))))))
def J5 (c0:followed):List Za→Nat→((Unit) ⊕ (Int))
 | [],_=>.inl ()
 | x::xs,k=>let r1:=X8 x c0
  cond r1 (
   .inr (k:Int)) (
   J5 c0 xs (k+1))
def KL (s:List Za) (c0:followed):Int :=
 Sum.elim (fun _ =>
  (-1)) (fun r=>r) (J5 c0 s 0)
theorem BP (A_s:Option Addr) (c_s:Nat) (s:List Za) (jc:Addr) (c0:followed) (w:World) (h_s:Rd w 20 A_s (s.map Za.c)) (_hc_s:s.length≤c_s) (y6:Rd w 23 (some jc) [followed.c c0]):Calls Tryz.prog 160 #[.slice A_s s.length c_s,.func (.func 118) #[] #[.pointer (some jc)]] w (Ret w (.int .i64 (KL s c0))):=by
 have s_s:=h_s.short;rw[aD] at s_s
 refine Zp (vs:=[.slice A_s s.length c_s,.func (.func 118) #[] #[.pointer (some jc)]]) (w:=w) Tryz.func160 rfl Tryz.ntmps160 rfl (Zf (Zc 1 [] [(4,.i 0)] {} (Z1 (Zf (Zc 3 [] [(7,.i (s.length:Int)),(8,.i 0)] {} (Zb rfl ?_))))))
 obtain⟨R1,hR⟩:∃ R,R=J5 c0 s 0:=⟨_,rfl⟩
 refine TC.cut (S:=Unit) (fun (_:Unit)=>[]) (fun (_:Unit)=>[]) (fun (_:Unit)=>R1=.inl ()) ?_ ?_
 ·refine TC.block (Xp (X:=Nat) (fun k=>[(0,.slice A_s s.length c_s),(1,.func (.func 118) #[] #[.pointer (some jc)]),(7,.i (s.length:Int)),(8,.i (k:Int))]) (fun k=>[]) (fun k=>s.length-k) (fun k=>k≤s.length∧R1=J5 c0 (s.drop k) k) ?_ 0 ⟨aP _,hR⟩ Kr (sb 0))
  rintro k ⟨hk,hI⟩
  refine Zf (Zc 1 [] [(9,.b (decide ((k:Int)<(s.length:Int))))] {} (Z1 (TC.cond (decide ((k:Int)<(s.length:Int))) rfl Kr (fun h1=>?_) (fun h1=>?_))))
  ·have hlt:=ltN h1
   obtain⟨x,hx⟩:=elN hlt
   have hd:=drop_at hx
   refine Yg (TC.seq (TC.block (Zf (Zc 2 [] [(5,.i (k:Int))] {} (Zz (Zc 3 [] [(11,.func (.func 118) #[] #[.pointer (some jc)]),(12,.slice A_s s.length c_s),(13,.i (k:Int))] {} (TL.v (sV (Instr.indexAt 31 (.slice A_s s.length c_s) (.i (k:Int)))) 14 (.pointer (some (Ix A_s (k*20)))) (fun w hM=>Zr (h_s.sat hM) (by simp) Kr sd sd) {} (TL.v (sV (Instr.loadAt 44 (.pointer (some (Ix A_s (k*20)))))) 15 (Za.v x) (fun w hM=>Z9 (n:=20) (off:=0) (i:=k) (Za.v x) (h_s.sat hM) (Z6 hx) Kr Kr Kr) {} (TL.c 16 (X8 x c0) (fun r1=>.b r1) (fun w hM=>VY x jc c0 w (y6.sat hM)) {} (fun r1 hr1=>Zb rfl (TC.cond r1 rfl Kr (fun h2=>?_) (fun h2=>?_))))))))))))
   ·refine Zf (Zc 2 [] [(4,.i (k:Int))] {} (Zb rfl (TC.ret (ZL (Zo (Zo (ZL (Zo (Zo ?_)))))))))
    exact TE.ret [] (.i (k:Int)) {} (by unfold KL;refine eS (fun z=>(.i z:Value)) ?_;subst hr1;exact Xh (hR.symm.trans (hI.trans (by rw[hd];exact Zm h2 (rfl)))) rfl)
   ·exact TC.skip (ZY (Z3 (TC.region (Zc 2 [] [(8,.i (w64 ((k:Int)+1)))] {} (Zw rfl (TE.rw 8 (.i (w64 ((k:Int)+1))) (.i ((k+1:Nat):Int)) Kr (ZD k (by omega)) (Z4 (x:=k) (k+1) ⟨by omega,hI.trans (by subst hr1;rw[hd];exact Ze h2 (rfl))⟩ (mN hlt) Kr (sb 0))))))))
  ·have hd:=Qb h1
   refine TC.exit (ZT (ZT (Z0 ?_)))
   exact TE.cut () (hI.trans (by rw[hd];exact rfl)) Kr (sb 0)
 ·intro _ hJ
  exact YC (Zc 1 [] [(4,.i (-1))] {} (Zb rfl (TC.ret (TE.ret [] (.i (-1)) {} (by unfold KL;refine eS (fun z=>(.i z:Value)) ?_;exact Q3 (hR.symm.trans hJ) (rfl))))))
def Kz (s:List Za) (c0:followed):Bool :=
 let r1:=KL s c0
 decide (r1≥0)
theorem WR (A_s:Option Addr) (c_s:Nat) (s:List Za) (jc:Addr) (c0:followed) (w:World) (h_s:Rd w 20 A_s (s.map Za.c)) (du:s.length≤c_s) (y6:Rd w 23 (some jc) [followed.c c0]):Calls Tryz.prog 117 #[.slice A_s s.length c_s,.func (.func 118) #[] #[.pointer (some jc)]] w (Ret w (.bool (Kz s c0))):=by
 have s_s:=h_s.short;rw[aD] at s_s
 exact Zp (vs:=[.slice A_s s.length c_s,.func (.func 118) #[] #[.pointer (some jc)]]) (w:=w) Tryz.func117 rfl Tryz.ntmps117 rfl (Zf (Zc 1 [] [(4,.b false)] {} (Zz (Zc 2 [] [(5,.slice A_s s.length c_s),(6,.func (.func 118) #[] #[.pointer (some jc)])] {} (TL.c 7 (KL s c0) (fun r1=>.i r1) (fun w hM=>BP A_s c_s s jc c0 w (h_s.sat hM) du (y6.sat hM)) {} (fun r1 hr1=>Zc 5 [] [(4,.b (decide (r1≥0)))] {} (Zb rfl (TC.ret (TE.ret [] (.b (decide (r1≥0))) {} (by unfold Kz;refine eS (fun z=>(.b z:Value)) ?_;subst hr1;exact rfl))))))))))
def ZJ (x:followed) (x_2:Int) (x_3:List Za):Bool :=
 cond (x.f.Track.Time==x_2) (
  let r1:=Kz x_3 x
  !r1) (
  false)
theorem KU (x:followed) (vg:Addr) (x_2:Int) (kq:Addr) (A_x_3:Option Addr) (wv:Nat) (x_3:List Za) (w:World) (uo:Rd w 1 (some vg) [ic x_2]) (gw:Rd w 1 (some kq) [Sl.c (⟨A_x_3,wv,x_3⟩:Sl Za)]) (uq:(⟨A_x_3,wv,x_3⟩:Sl Za).rd w 20 Za.c):Calls Tryz.prog 116 #[followed.v x,.pointer (some vg),.pointer (some kq)] w (Ret w (.bool (ZJ x x_2 x_3))):=by
 refine Zp (vs:=[followed.v x,.pointer (some vg),.pointer (some kq)]) (w:=w) Tryz.func116 rfl Tryz.ntmps116 rfl (Zf (ZA 3 (fun b1=>.p0 b1) (fun b1=>Bk b1 (followed.c x) 122) (fun b1=>{}) (fun b1=>Zc 2 [] [(4,.b false)] {} (Zz (Zc 4 [0] [(8,.i x.f.Track.Time)] {} (TL.v (sV (Instr.loadAt 3 (.pointer (some vg)))) 9 (.i x_2) (fun w hM=>Zu (off:=0) (.i x_2) (uo.sat hM) (XU _) Kr Kr) {} (Zc 7 [] [(11,.b (x.f.Track.Time==x_2))] {} (Yy 11 (x.f.Track.Time==x_2) Kr (fun h1=>?_) (fun h1=>?_)))))))))
 ·exact TL.v (sV (Instr.loadAt 31 (.pointer (some kq)))) 12 (.slice A_x_3 x_3.length wv) (fun w hM=>Zu (off:=0) (.slice A_x_3 x_3.length wv) (gw.sat hM) (XU _) Kr Kr) {} (Zc 9 [] [(13,.func (.func 118) #[] #[.p0 b1])] {} (TL.c 14 (Kz x_3 x) (fun r1=>.b r1) (fun w hM=>WR A_x_3 wv x_3 ⟨b1,0,none⟩ x w (uq.rd.sat hM) uq.le (Rd.lit hM 0 _ rfl Kr Kr Kr)) {} (fun r1 hr1=>Zc 13 [] [(4,.b (!r1))] {} (Zb rfl (TC.ret (TE.ret [] (.b (!r1)) {} (by unfold ZJ;refine eS (fun z=>(.b z:Value)) ?_;subst hr1;exact Zm h1 (rfl))))))))
 ·exact Zc 13 [] [(4,.b false)] {} (Zb rfl (TC.ret (TE.ret [] (.b false) {} (by unfold ZJ;refine eS (fun z=>(.b z:Value)) ?_;exact Ze h1 (rfl)))))
def Xv (c0:Int) (c1:List Za):List followed→Nat→((Unit) ⊕ (Int))
 | [],_=>.inl ()
 | x::xs,k=>let r1:=ZJ x c0 c1
  cond r1 (
   .inr (k:Int)) (
   Xv c0 c1 xs (k+1))
def QV (s:List followed) (c0:Int) (c1:List Za):Int :=
 Sum.elim (fun _ =>
  (-1)) (fun r=>r) (Xv c0 c1 s 0)
theorem H3 (A_s:Option Addr) (c_s:Nat) (s:List followed) (jc:Addr) (c0:Int) (wb:Addr) (A_c1:Option Addr) (kh:Nat) (c1:List Za) (w:World) (h_s:Rd w 23 A_s (s.map followed.c)) (_hc_s:s.length≤c_s) (y6:Rd w 1 (some jc) [ic c0]) (dv:Rd w 1 (some wb) [Sl.c (⟨A_c1,kh,c1⟩:Sl Za)]) (cu:(⟨A_c1,kh,c1⟩:Sl Za).rd w 20 Za.c):Calls Tryz.prog 159 #[.slice A_s s.length c_s,.func (.func 116) #[] #[.pointer (some jc),.pointer (some wb)]] w (Ret w (.int .i64 (QV s c0 c1))):=by
 have s_s:=h_s.short;rw[aD] at s_s
 refine Zp (vs:=[.slice A_s s.length c_s,.func (.func 116) #[] #[.pointer (some jc),.pointer (some wb)]]) (w:=w) Tryz.func159 rfl Tryz.ntmps159 rfl (Zf (Zc 1 [] [(4,.i 0)] {} (Z1 (Zf (Zc 3 [] [(7,.i (s.length:Int)),(8,.i 0)] {} (Zb rfl ?_))))))
 obtain⟨R1,hR⟩:∃ R,R=Xv c0 c1 s 0:=⟨_,rfl⟩
 refine TC.cut (S:=Unit) (fun (_:Unit)=>[]) (fun (_:Unit)=>[]) (fun (_:Unit)=>R1=.inl ()) ?_ ?_
 ·refine TC.block (Xp (X:=Nat) (fun k=>[(0,.slice A_s s.length c_s),(1,.func (.func 116) #[] #[.pointer (some jc),.pointer (some wb)]),(7,.i (s.length:Int)),(8,.i (k:Int))]) (fun k=>[]) (fun k=>s.length-k) (fun k=>k≤s.length∧R1=Xv c0 c1 (s.drop k) k) ?_ 0 ⟨aP _,hR⟩ Kr (sb 0))
  rintro k ⟨hk,hI⟩
  refine Zf (Zc 1 [] [(9,.b (decide ((k:Int)<(s.length:Int))))] {} (Z1 (TC.cond (decide ((k:Int)<(s.length:Int))) rfl Kr (fun h1=>?_) (fun h1=>?_))))
  ·have hlt:=ltN h1
   obtain⟨x,hx⟩:=elN hlt
   have hd:=drop_at hx
   refine Yg (TC.seq (TC.block (Zf (Zc 2 [] [(5,.i (k:Int))] {} (Zz (Zc 3 [] [(11,.func (.func 116) #[] #[.pointer (some jc),.pointer (some wb)]),(12,.slice A_s s.length c_s),(13,.i (k:Int))] {} (TL.v (sV (Instr.indexAt 116 (.slice A_s s.length c_s) (.i (k:Int)))) 14 (.pointer (some (Ix A_s (k*23)))) (fun w hM=>Zr (h_s.sat hM) (by simp) Kr sd sd) {} (TL.v (sV (Instr.loadAt 122 (.pointer (some (Ix A_s (k*23)))))) 15 (followed.v x) (fun w hM=>Z9 (n:=23) (off:=0) (i:=k) (followed.v x) (h_s.sat hM) (Z6 hx) Kr Kr Kr) {} (TL.c 16 (ZJ x c0 c1) (fun r1=>.b r1) (fun w hM=>KU x jc c0 wb A_c1 kh c1 w (y6.sat hM) (dv.sat hM) (cu.sat hM)) {} (fun r1 hr1=>Zb rfl (TC.cond r1 rfl Kr (fun h2=>?_) (fun h2=>?_))))))))))))
   ·refine Zf (Zc 2 [] [(4,.i (k:Int))] {} (Zb rfl (TC.ret (ZL (Zo (Zo (ZL (Zo (Zo ?_)))))))))
    exact TE.ret [] (.i (k:Int)) {} (by unfold QV;refine eS (fun z=>(.i z:Value)) ?_;subst hr1;exact Xh (hR.symm.trans (hI.trans (by rw[hd];exact Zm h2 (rfl)))) rfl)
   ·exact TC.skip (ZY (Z3 (TC.region (Zc 2 [] [(8,.i (w64 ((k:Int)+1)))] {} (Zw rfl (TE.rw 8 (.i (w64 ((k:Int)+1))) (.i ((k+1:Nat):Int)) Kr (ZD k (by omega)) (Z4 (x:=k) (k+1) ⟨by omega,hI.trans (by subst hr1;rw[hd];exact Ze h2 (rfl))⟩ (mN hlt) Kr (sb 0))))))))
  ·have hd:=Qb h1
   refine TC.exit (ZT (ZT (Z0 ?_)))
   exact TE.cut () (hI.trans (by rw[hd];exact rfl)) Kr (sb 0)
 ·intro _ hJ
  exact YC (Zc 1 [] [(4,.i (-1))] {} (Zb rfl (TC.ret (TE.ret [] (.i (-1)) {} (by unfold QV;refine eS (fun z=>(.i z:Value)) ?_;exact Q3 (hR.symm.trans hJ) (rfl))))))
def Qn (c0:Int) (c1:List Za) (r1:Int):Nat→Nat→Int→(List followed)→(Int×List followed)
 | 0,_,i,s_2=>(i,s_2)
 | m+1,k,i,s_2=>let r2:=ZJ (s_2[((r1+1)+(k:Int)).toNat]?.getD followed.zero) c0 c1
  cond (!r2) (
   Qn c0 c1 r1 m (k+1) (w64 (i+1)) (s_2.set i.toNat (s_2[((r1+1)+(k:Int)).toNat]?.getD followed.zero))) (
   Qn c0 c1 r1 m (k+1) i s_2)
def XP (s:List followed) (c0:Int) (c1:List Za):(List followed) :=
 let r1:=QV s c0 c1
 cond (r1==(-1)) (
  s) (
  YB (Qn c0 c1 r1 (((s.length:Int)-(r1+1)).toNat) 0 r1 s) (fun (i_2,s_3) =>
   ((s_3.take i_2.toNat++List.replicate (s_3.length-i_2.toNat) followed.zero).take i_2.toNat)))
theorem Tz (c0:Int) (c1:List Za):∀ (l:List followed) (k:Nat),Xv c0 c1 l k=.inl ()∨∃ j:Nat,Xv c0 c1 l k=.inr (j:Int)∧j<k+l.length
 | [],k=>.inl rfl
 | x::xs,k=>by
  unfold Xv
  simp only
  cases ZJ x c0 c1 with
  | true=>exact .inr ⟨k,rfl,by simp⟩
  | false =>
   rcases Tz c0 c1 xs (k+1) with h|⟨j,h,hj⟩
   ·exact .inl h
   ·exact .inr ⟨j,h,by simp only[aI];omega⟩
theorem Xq {l:List followed} {c0:Int} {c1:List Za} {r:Int} (h:QV l c0 c1=r) (h1:(r==(-1))=false):0≤r∧r<(l.length:Int):=by
 subst h
 unfold QV at *
 rcases Tz c0 c1 l 0 with h2|⟨j,h2,hj⟩
 ·rw[h2] at h1;cases h1
 ·rw[h2];show 0≤(j:Int)∧(j:Int)<_;omega
theorem WS (A_s:Option Addr) (c_s:Nat) (s:List followed) (yf:Nat) (c0:Int) (yg:Nat) (A_c1:Option Addr) (kh:Nat) (c1:List Za) (w:World) (hM:Sat ⟨w,XR [.inr (Own A_s c_s 122 23 (s.map followed.c)),.inl (yf,.cells #[.int .i64 c0] 3 (0,0)),.inl (yg,.cells #[.slice A_c1 c1.length kh] 31 (0,0)),.inr (Own A_c1 kh 44 20 (c1.map Za.c))]⟩ [.inr (Own A_s c_s 122 23 (s.map followed.c)),.inl (yf,.cells #[.int .i64 c0] 3 (0,0)),.inl (yg,.cells #[.slice A_c1 c1.length kh] 31 (0,0)),.inr (Own A_c1 kh 44 20 (c1.map Za.c))] w):Calls Tryz.prog 115 #[.slice A_s s.length c_s,.func (.func 116) #[] #[.pointer (some ⟨yf,0,none⟩),.pointer (some ⟨yg,0,none⟩)]] w (JH (Γ:=Unit) ⟨w,XR [.inr (Own A_s c_s 122 23 (s.map followed.c)),.inl (yf,.cells #[.int .i64 c0] 3 (0,0)),.inl (yg,.cells #[.slice A_c1 c1.length kh] 31 (0,0)),.inr (Own A_c1 kh 44 20 (c1.map Za.c))]⟩ (fun _=>.slice A_s ((XP s c0 c1).length) c_s) (fun _=>[.inr (Own A_s c_s 122 23 ((XP s c0 c1).map followed.c)),.inl (yf,.cells #[.int .i64 c0] 3 (0,0)),.inl (yg,.cells #[.slice A_c1 c1.length kh] 31 (0,0)),.inr (Own A_c1 kh 44 20 (c1.map Za.c))])):=by
 refine YS (w0:=⟨w,XR [Ow A_s c_s 122 23 (s.map followed.c),Bk yf #[.i c0] 3,Bk yg #[.slice A_c1 c1.length kh] 31,Ow A_c1 kh 44 20 (c1.map Za.c)]⟩) (vs:=[.slice A_s s.length c_s,.func (.func 116) #[] #[.p0 yf,.p0 yg]]) hM Tryz.func115 rfl Tryz.ntmps115 rfl (Gn (fun w hM=>hM.short_at 0 rfl) (fun s_s=>Gn (fun w hM=>hM.short_at 3 rfl) (fun s_c1=>Zf (Zc 1 [] [(4,.slice none 0 0)] {} (Zz (Zc 2 [] [(8,.slice A_s s.length c_s),(9,.func (.func 116) #[] #[.p0 yf,.p0 yg])] {} (TL.c 10 (QV s c0 c1) (fun r1=>.i r1) (fun w hM=>H3 A_s c_s s ⟨yf,0,none⟩ c0 ⟨yg,0,none⟩ A_c1 kh c1 w (hM.rd_at 0 rfl) (hM.le_at 0 rfl) (Rd.lit hM 1 _ rfl Kr Kr Kr) (Rd.lit hM 2 _ rfl Kr Kr Kr) ⟨(hM.rd_at 3 rfl),(hM.le_at 3 rfl)⟩) {} (fun r1 hr1=>Zc 4 [] [(5,.i r1)] {} (Z1 (Zf (Zc 2 [] [(12,.b (r1==(-1)))] {} (Zb rfl (TC.cond (r1==(-1)) rfl Kr (fun h1=>?_) (fun h1=>?_))))))))))))))
 ·refine Zf (Zc 2 [] [(4,.slice A_s s.length c_s)] {} (Zb rfl (TC.ret (Zo ?_))))
  have e:XP s c0 c1=s:=by subst hr1;unfold XP;exact Zm h1 (rfl)
  rw[e]
  exact ZO (.inl rfl) () [] (.slice A_s s.length c_s) {} rfl (fun _ hM=>hM.sub (sb 15))
 ·have vm:=(Yl h1)
  refine Yg (TC.seq (Zf (Zc 3 [] [(6,.i (w64 (r1+1)))] {} (Zb rfl ?_))))
  obtain⟨R1,hR⟩:∃ R,R=Qn c0 c1 r1 (((s.length:Int)-(r1+1)).toNat) 0 r1 s:=⟨_,rfl⟩
  refine TC.cut (S:=Int×(List followed)) (fun (i_2,s_3)=>[(0,.slice A_s s_3.length c_s),(5,.i i_2)]) (fun (i_2,s_3)=>[Ow A_s c_s 122 23 (s_3.map followed.c),Bk yf #[.i c0] 3,Bk yg #[.slice A_c1 c1.length kh] 31,Ow A_c1 kh 44 20 (c1.map Za.c)]) (fun (i_2,s_3)=>R1=(i_2,s_3)∧s_3.length=s.length∧(0≤i_2∧i_2≤(s.length:Int))) ?_ ?_
  ·refine TC.block (TC.rw 6 (.i (w64 (r1+1))) (.i ((r1+1)+((0:Nat):Int))) Kr (int_eq (by (try have kx_:=Xq hr1 h1);have kx_:=Xq hr1 h1;first|omega|(rw[Zt (by omega)];omega)|(simp only[Xi];omega))) (Xp (X:=Nat×Int×(List followed)) (fun (k,i,s_2)=>[(0,.slice A_s s_2.length c_s),(1,.func (.func 116) #[] #[.p0 yf,.p0 yg]),(5,.i i),(6,.i ((r1+1)+(k:Int)))]) (fun (k,i,s_2)=>[Ow A_s c_s 122 23 (s_2.map followed.c),Bk yf #[.i c0] 3,Bk yg #[.slice A_c1 c1.length kh] 31,Ow A_c1 kh 44 20 (c1.map Za.c)]) (fun (k,i,s_2)=>(((s.length:Int)-(r1+1)).toNat)-k) (fun (k,i,s_2)=>k≤(((s.length:Int)-(r1+1)).toNat)∧R1=Qn c0 c1 r1 ((((s.length:Int)-(r1+1)).toNat)-k) k i s_2∧s_2.length=s.length∧(0≤i∧i≤r1+(k:Int))) ?_ (0,r1,s) ⟨aP _,hR,sz,(by (try have kx_:=Xq hr1 h1);exact sz)⟩ Kr (sb 15)))
   rintro⟨k,i,s_2⟩ ⟨hk,hI,lp,wx⟩
   refine TC.seq (Zf (Zc 4 [] [(19,.b (decide (((r1+1)+(k:Int))<(s_2.length:Int))))] {} (Zb rfl (TC.cond (decide (((r1+1)+(k:Int))<(s_2.length:Int))) rfl Kr (fun h2=>?_) (fun h2=>?_)))))
   ·have hlt:k<(((s.length:Int)-(r1+1)).toNat):=by (try have kx_:=Xq hr1 h1);have p0_:=(ZF h2);have kx_:=Xq hr1 h1;first|omega|(simp only[Xi] at *;omega)
    have hd:(((s.length:Int)-(r1+1)).toNat)-k=((((s.length:Int)-(r1+1)).toNat)-(k+1))+1:=by omega
    have k9:=(ZF h2)
    refine Yg (TC.seq (TC.block (Zf (Zc 2 [] [(22,.slice A_s s_2.length c_s),(23,.i ((r1+1)+(k:Int)))] {} (TL.v (sV (Instr.indexAt 116 (.slice A_s s_2.length c_s) (.i ((r1+1)+(k:Int))))) 24 (.pointer (some ((A_s.getD Yz).add (((r1+1)+(k:Int)).toNat*23)))) (fun w hM=>Zr (hM.rd_at 0 rfl) (by simp) Kr (by (try have kx_:=Xq hr1 h1);exact sd) (by (try have kx_:=Xq hr1 h1);exact sd)) {} (TL.v (sV (Instr.loadAt 122 (.pointer (some ((A_s.getD Yz).add (((r1+1)+(k:Int)).toNat*23)))))) 25 (followed.v (s_2[((r1+1)+(k:Int)).toNat]?.getD followed.zero)) (fun w hM=>Z9 (n:=23) (off:=0) (i:=((r1+1)+(k:Int)).toNat) (followed.v (s_2[((r1+1)+(k:Int)).toNat]?.getD followed.zero)) (hM.rd_at 0 rfl) (Z6 (getD_at _ _ followed.zero (by (try have kx_:=Xq hr1 h1);exact sd))) Kr Kr Kr) {} (ZA 7 (fun b1=>.p0 b1) (fun b1=>Bk b1 (followed.c followed.zero) 122) (fun b1=>{}) (fun b1=>Yp 0 (Bk b1 (followed.c (s_2[((r1+1)+(k:Int)).toNat]?.getD followed.zero)) 122) (fun _=>{}) (Zz (Zc 2 [0] [(26,.func (.func 116) #[] #[.p0 yf,.p0 yg]),(27,followed.v (s_2[((r1+1)+(k:Int)).toNat]?.getD followed.zero))] {} (TL.c 28 (ZJ (s_2[((r1+1)+(k:Int)).toNat]?.getD followed.zero) c0 c1) (fun r2=>.b r2) (fun w hM=>KU (s_2[((r1+1)+(k:Int)).toNat]?.getD followed.zero) ⟨yf,0,none⟩ c0 ⟨yg,0,none⟩ A_c1 kh c1 w (Rd.lit hM 2 _ rfl Kr Kr Kr) (Rd.lit hM 3 _ rfl Kr Kr Kr) ⟨(hM.rd_at 4 rfl),(hM.le_at 4 rfl)⟩) {} (fun r2 hr2=>Zc 4 [] [(29,.b (!r2))] {} (Zb rfl (TC.cond (!r2) rfl Kr (fun h3=>?_) (fun h3=>?_)))))))))))))))
    ·exact Zf (Zc 3 [0] [(30,.slice A_s s_2.length c_s),(31,.i i),(32,followed.v (s_2[((r1+1)+(k:Int)).toNat]?.getD followed.zero))] {} (TL.v (sV (Instr.indexAt 116 (.slice A_s s_2.length c_s) (.i i))) 33 (.pointer (some (Ix A_s (i.toNat*23)))) (fun w hM=>Zr (hM.rd_at 1 rfl) (by simp) Kr (by (try have kx_:=Xq hr1 h1);exact sd) (by (try have kx_:=Xq hr1 h1);exact sd)) {} (KF (Γ:=Unit) (sU (Instr.storeAt 122 (.pointer (some ((Ix A_s (i.toNat*23)).add 0))) (followed.v (s_2[((r1+1)+(k:Int)).toNat]?.getD followed.zero)))) 1 (Ow A_s c_s 122 23 ((s_2.set i.toNat (s_2[((r1+1)+(k:Int)).toNat]?.getD followed.zero)).map followed.c)) (Y2 (n:=23) (off:=0) (followed.v (s_2[((r1+1)+(k:Int)).toNat]?.getD followed.zero)) 1 ((s_2.set i.toNat (s_2[((r1+1)+(k:Int)).toNat]?.getD followed.zero)).map followed.c) rfl (Z6 (getD_at _ _ followed.zero (by (try have kx_:=Xq hr1 h1);exact sd))) Kr Kr Kr Kr (YJ Kr)) Kr (TL.rw 0 (.slice A_s s_2.length c_s) (.slice A_s ((s_2.set i.toNat (s_2[((r1+1)+(k:Int)).toNat]?.getD followed.zero)).length) c_s) Kr (by simp only[aL]) (Zb rfl (TC.region (Zc 3 [] [(5,.i (w64 (i+1)))] {} (Zw rfl (ZY (Z3 (TC.region (Zc 3 [] [(6,.i (w64 (((r1+1)+(k:Int))+1)))] {} (Zw rfl (TE.rw 6 (.i (w64 (((r1+1)+(k:Int))+1))) (.i ((r1+1)+((k+1:Nat):Int))) Kr (int_eq (by (try have kx_:=Xq hr1 h1);have kx_:=Xq hr1 h1;first|omega|(rw[Zt (by omega)];omega)|(simp only[Xi] at *;omega))) (Z4 (x:=(k,i,s_2)) (k+1,w64 (i+1),(s_2.set i.toNat (s_2[((r1+1)+(k:Int)).toNat]?.getD followed.zero))) ⟨by omega,hI.trans (by subst hr1 hr2;rw[hd];exact Zm h3 (rfl)),(by (try have kx_:=Xq hr1 h1);exact sl),(by (try have kx_:=Xq hr1 h1);exact sl)⟩ (mN hlt) Kr (sb 30))))))))))))))))
    ·exact TC.skip (ZY (Z3 (TC.region (Zc 3 [] [(6,.i (w64 (((r1+1)+(k:Int))+1)))] {} (Zw rfl (TE.rw 6 (.i (w64 (((r1+1)+(k:Int))+1))) (.i ((r1+1)+((k+1:Nat):Int))) Kr (int_eq (by (try have kx_:=Xq hr1 h1);have kx_:=Xq hr1 h1;first|omega|(rw[Zt (by omega)];omega)|(simp only[Xi] at *;omega))) (Z4 (x:=(k,i,s_2)) (k+1,i,s_2) ⟨by omega,hI.trans (by subst hr1 hr2;rw[hd];exact Ze h3 (rfl)),(by (try have kx_:=Xq hr1 h1);exact sl),(by (try have kx_:=Xq hr1 h1);exact sl)⟩ (mN hlt) Kr (sb 30))))))))
   ·have hd:(((s.length:Int)-(r1+1)).toNat)-k=0:=by (try have kx_:=Xq hr1 h1);have p0_:=(Zv h2);have kx_:=Xq hr1 h1;first|omega|(simp only[Xi] at *;omega)
    refine TC.exit (ZT (ZT (Z0 ?_)))
    exact TE.cut (i,s_2) (⟨hI.trans (by subst hr1;rw[hd];exact rfl),(by (try have kx_:=Xq hr1 h1);exact sl),(by (try have kx_:=Xq hr1 h1);exact sl)⟩) Kr (sb 15)
  ·rintro⟨i_2,s_3⟩ ⟨hJ,lq,kz⟩
   refine YC (Zc 2 [] [(36,.slice A_s s_3.length c_s),(37,.i i_2)] {} ?_)
   obtain⟨A1,hA1⟩:∃ A0_,A0_=(if c_s=i_2.toNat then A_s else A_s.map (fun a=>a.add (i_2.toNat*23))):=⟨_,rfl⟩
   refine TL.v (sV (Instr.sliceAt 116 (.slice A_s s_3.length c_s) (some (.i i_2)) none none)) 38 (.slice A1 ((s_3.drop i_2.toNat).length) (c_s-i_2.toNat)) (fun w hM=>(Vv i_2.toNat s_3.length Kr (.inr ⟨_,_,rfl,(by (try have kx_:=Xq hr1 h1);exact sd),rfl⟩) (.inl ⟨rfl,rfl⟩) (by (try have kx_:=Xq hr1 h1);exact sd) (bL (aU _) (hM.le_at 0 rfl))).trans (by rw[hA1];(try have kx_:=Xq hr1 h1);congr 3;simp only[aH])) {} ?_
   have dw:(s_3.take i_2.toNat++List.replicate (s_3.length-i_2.toNat) followed.zero).length=s_3.length:=by have k_:i_2.toNat≤s_3.length:=(by (try have kx_:=Xq hr1 h1);exact sd);simp only[aW,aZ,bA];omega
   refine Fa (Γ:=Unit) (sV (Builtin.clear_ #[116] 0 #[.slice A1 ((s_3.drop i_2.toNat).length) (c_s-i_2.toNat)])) none (fun _=>.tuple #[]) (fun _=>[Ow A_s c_s 122 23 ((s_3.take i_2.toNat++List.replicate (s_3.length-i_2.toNat) followed.zero).map followed.c),Bk yf #[.i c0] 3,Bk yg #[.slice A_c1 c1.length kh] 31,Ow A_c1 kh 44 20 (c1.map Za.c)]) (fun _=>[(0,.slice A_s s_3.length c_s),(5,.i i_2)]) (by exact WQ (c:=followed.c) (bytes:=184) (sz:=23) followed.zero 0 i_2.toNat ((c_s-i_2.toNat)) ((s_3.drop i_2.toNat).length) 0 Kr Kr followed.one rfl hA1 (by simp only[aH]) (by (try have kx_:=Xq hr1 h1);exact sd)) Kr (fun _=>Kr) (fun _=>TL.rw 0 (.slice A_s s_3.length c_s) (.slice A_s ((s_3.take i_2.toNat++List.replicate (s_3.length-i_2.toNat) followed.zero).length) c_s) Kr (by rw[dw]) (Zz (Zc 2 [] [(39,.slice A_s ((s_3.take i_2.toNat++List.replicate (s_3.length-i_2.toNat) followed.zero).length) c_s),(40,.i i_2)] {} ?_)))
   obtain⟨A1_2,gx⟩:∃ A0_,A0_=(if c_s=0 then A_s else A_s.map (fun a=>a.add (0*23))):=⟨_,rfl⟩
   refine TL.v (sV (Instr.sliceAt 116 (.slice A_s ((s_3.take i_2.toNat++List.replicate (s_3.length-i_2.toNat) followed.zero).length) c_s) none (some (.i i_2)) none)) 41 (.slice A1_2 (((s_3.take i_2.toNat++List.replicate (s_3.length-i_2.toNat) followed.zero).take i_2.toNat).length) (c_s-0)) (fun w hM=>(Vv 0 i_2.toNat Kr (.inl ⟨rfl,rfl⟩) (.inr ⟨_,_,rfl,(by (try have kx_:=Xq hr1 h1);exact sd),rfl⟩) (by (try have kx_:=Xq hr1 h1);exact sd) (bL (by (try have kx_:=Xq hr1 h1);exact sd) (hM.le_at 0 rfl))).trans (by rw[gx];(try have kx_:=Xq hr1 h1);congr 3;first|(simp only[aZ] <;> omega)|(simp only[aZ] at * <;> omega))) {} (Zc 4 [] [(4,.slice A1_2 (((s_3.take i_2.toNat++List.replicate (s_3.length-i_2.toNat) followed.zero).take i_2.toNat).length) (c_s-0))] {} (Zb rfl (TC.ret (Yi [Ow A_s c_s 122 23 (((s_3.take i_2.toNat++List.replicate (s_3.length-i_2.toNat) followed.zero).take i_2.toNat).map followed.c),Bk yf #[.i c0] 3,Bk yg #[.slice A_c1 c1.length kh] 31,Ow A_c1 kh 44 20 (c1.map Za.c)] (fun _ hM=>by have h_:=hM.takerow i_2.toNat 0 rfl (by simp only[aD];exact(by (try have kx_:=Xq hr1 h1);exact sg));rw[← fQ] at h_;exact h_) ?_))))
   have e:XP s c0 c1=((s_3.take i_2.toNat++List.replicate (s_3.length-i_2.toNat) followed.zero).take i_2.toNat):=by subst hr1;unfold XP;exact Ze h1 (Yr (hR.symm.trans hJ) (rfl))
   rw[e]
   exact ZO (.inl rfl) () [] (.slice A1_2 (((s_3.take i_2.toNat++List.replicate (s_3.length-i_2.toNat) followed.zero).take i_2.toNat).length) (c_s-0)) {} (by rw[gx,Am];rfl) (fun _ hM=>hM.sub (sb 15))
def YU (time:Int):List followed→Nat→(List Za)→(List Za)
 | [],_,xs_=>xs_
 | x::xs,k,xs_=>cond (x.f.Track.Time==time) (
   YU time xs (k+1) (xs_++([x.f]))) (
   YU time xs (k+1) xs_)
def ZR (t:Zi) (time:Int):Zi :=
 YB (YU time t.all 0 ([]:List Za)) (fun ja =>
  let r1:=XO ja 500
  let r2:=XP t.all time r1.1
  (⟨t.rules,r2,t.next,t.last⟩:Zi))
theorem UU (b_t:Nat) (t:Zi) (A_t_all:Option Addr) (qf:Nat) (time:Int) (w:World) (hM:Sat ⟨w,XR [.inl (b_t,.cells (Zi.k t A_t_all qf) 118 (0,0)),.inr (Own A_t_all qf 122 23 (t.all.map followed.c))]⟩ [.inl (b_t,.cells (Zi.k t A_t_all qf) 118 (0,0)),.inr (Own A_t_all qf 122 23 (t.all.map followed.c))] w) (hn:t.all.length≤64):Calls Tryz.prog 58 #[.pointer (some ⟨b_t,0,none⟩),.int .i64 time] w (JH (Γ:=(Option Addr×Nat)) ⟨w,XR [.inl (b_t,.cells (Zi.k t A_t_all qf) 118 (0,0)),.inr (Own A_t_all qf 122 23 (t.all.map followed.c))]⟩ (fun _=>.tuple #[]) (fun g=>[.inl (b_t,.cells (Zi.k (⟨⟨(ZR t time).rules.Need,(ZR t time).rules.Of,(ZR t time).rules.Misses,(ZR t time).rules.Accel,(ZR t time).rules.Place,(ZR t time).rules.Speed⟩,(ZR t time).all,(ZR t time).next,(ZR t time).last⟩:Zi) g.1 g.2) 118 (0,0)),.inr (Own g.1 g.2 122 23 (((ZR t time).all).map followed.c))])):=by
 refine YS (w0:=⟨w,XR [Bk b_t (Zi.k t A_t_all qf) 118,Ow A_t_all qf 122 23 (t.all.map followed.c)]⟩) (vs:=[.p0 b_t,.i time]) hM Tryz.func58 rfl Tryz.ntmps58 rfl (Gn (fun w hM=>hM.short_at 1 rfl) (fun kp=>Zf (ZA 3 (fun b1=>.p0 b1) (fun b1=>Bk b1 #[.i time] 3) (fun b1=>{}) (fun b1=>Zz (ZA 4 (fun b2=>.p0 b2) (fun b2=>Bk b2 #[.slice none 0 0] 31) (fun b2=>{}) (fun b2=>Z1 (Zf (Zc 6 [2] [(10,.slice A_t_all t.all.length qf),(11,.i (t.all.length:Int)),(12,.i 0)] {} (Zb rfl (Q0 [Ow none 0 44 20 (([]:List Za).map Za.c),Bk b2 #[.slice none 0 0] 31,Bk b1 #[.i time] 3,Bk b_t (Zi.k t A_t_all qf) 118,Ow A_t_all qf 122 23 (t.all.map followed.c)] (fun _ hM=>hM.emptyrow none 44 20) (Q0 [Ow none 0 44 20 (([]:List Za).map Za.c),Bk b2 #[.slice none (([]:List Za).length) 0] 31,Bk b1 #[.i time] 3,Bk b_t (Zi.k t A_t_all qf) 118,Ow A_t_all qf 122 23 (t.all.map followed.c)] (fun _ hM=>hM) ?_)))))))))))
 obtain⟨R2,hR⟩:∃ R,R=YU time t.all 0 ([]:List Za):=⟨_,rfl⟩
 refine TC.cut (S:=(List Za)×(Option Addr)×Nat) (fun (ja,A_xs__2,jh)=>[(0,.p0 b_t),(3,.p0 b1),(4,.p0 b2)]) (fun (ja,A_xs__2,jh)=>[Ow A_xs__2 jh 44 20 (ja.map Za.c),Bk b2 #[.slice A_xs__2 ja.length jh] 31,Bk b1 #[.i time] 3,Bk b_t (Zi.k t A_t_all qf) 118,Ow A_t_all qf 122 23 (t.all.map followed.c)]) (fun (ja,A_xs__2,jh)=>R2=ja∧ja.length≤t.all.length) ?_ ?_
 ·refine TC.block (Xp (X:=Nat×(List Za)×(Option Addr)×Nat) (fun (k,xs_,A_xs_,za)=>[(0,.p0 b_t),(3,.p0 b1),(4,.p0 b2),(10,.slice A_t_all t.all.length qf),(11,.i (t.all.length:Int)),(12,.i (k:Int))]) (fun (k,xs_,A_xs_,za)=>[Ow A_xs_ za 44 20 (xs_.map Za.c),Bk b2 #[.slice A_xs_ xs_.length za] 31,Bk b1 #[.i time] 3,Bk b_t (Zi.k t A_t_all qf) 118,Ow A_t_all qf 122 23 (t.all.map followed.c)]) (fun (k,xs_,A_xs_,za)=>t.all.length-k) (fun (k,xs_,A_xs_,za)=>k≤t.all.length∧R2=YU time (t.all.drop k) k xs_∧xs_.length≤k) ?_ (0,([]:List Za),none,0) ⟨aP _,hR,sz⟩ Kr (sb 31))
  rintro⟨k,xs_,A_xs_,za⟩ ⟨hk,hI,ly⟩
  refine Zf (Zc 1 [] [(13,.b (decide ((k:Int)<(t.all.length:Int))))] {} (Z1 (TC.cond (decide ((k:Int)<(t.all.length:Int))) rfl Kr (fun h1=>?_) (fun h1=>?_))))
  ·have hlt:=ltN h1
   obtain⟨x,hx⟩:=elN hlt
   have hd:=drop_at hx
   refine Yg (TC.seq (TC.block (Zf (TL.v (sV (Instr.indexAt 116 (.slice A_t_all t.all.length qf) (.i (k:Int)))) 14 (.pointer (some (Ix A_t_all (k*23)))) (fun w hM=>Zr (hM.rd_at 4 rfl) (by simp) Kr sd sd) {} (TL.v (sV (Instr.loadAt 122 (.pointer (some (Ix A_t_all (k*23)))))) 15 (followed.v x) (fun w hM=>Z9 (n:=23) (off:=0) (i:=k) (followed.v x) (hM.rd_at 4 rfl) (Z6 hx) Kr Kr Kr) {} (ZA 6 (fun b3=>.p0 b3) (fun b3=>Bk b3 (followed.c followed.zero) 122) (fun b3=>{}) (fun b3=>Yp 0 (Bk b3 (followed.c x) 122) (fun _=>{}) (Zz (Zc 6 [0,3] [(21,.b (x.f.Track.Time==time))] {} (Zb rfl (TC.cond (x.f.Track.Time==time) rfl Kr (fun h2=>?_) (fun h2=>?_))))))))))))
   ·have k9:=(YT h2)
    refine TC.region (Zc 3 [2,0] [(22,.slice A_xs_ xs_.length za),(24,Za.v x.f)] {} (ZA 25 (fun b4=>.slice (Pa b4) 1 1) (fun b4=>Bk b4 (Za.c x.f) 44) (fun b4=>{}) (fun b4=>TL.os (Γ:=AN) (sV (Builtin.append_ #[31,31] 31 #[.slice A_xs_ xs_.length za,.slice (Pa b4) 1 1])) 26 (fun g=>.slice g.1 (xs_++([x.f])).length g.2) 2 (fun g=>Ow g.1 g.2 44 20 ((xs_++([x.f])).map Za.c)) (QE (bytes:=160) 31 2 ([x.f]) Kr rfl rfl Za.one rfl (fun w hM=>(Rd.lit hM 0 _ rfl Kr Kr Kr)) rfl sa) {} ?_)))
    rintro⟨A,c⟩
    exact Yp 3 (Bk b2 #[.slice A ((xs_++([x.f])).length) c] 31) (fun _=>{}) (Zw rfl (ZY (Z3 (TC.region (Zc 2 [] [(12,.i (w64 ((k:Int)+1)))] {} (Zw rfl (TE.rw 12 (.i (w64 ((k:Int)+1))) (.i ((k+1:Nat):Int)) Kr (ZD k (by omega)) (Z4 (x:=(k,xs_,A_xs_,za)) (k+1,(xs_++([x.f])),A,c) ⟨by omega,hI.trans (by rw[hd];exact Zm h2 (rfl)),sl⟩ (mN hlt) Kr (sb 124)))))))))
   ·have k9:=(Yl h2)
    exact TC.skip (ZY (Z3 (TC.region (Zc 2 [] [(12,.i (w64 ((k:Int)+1)))] {} (Zw rfl (TE.rw 12 (.i (w64 ((k:Int)+1))) (.i ((k+1:Nat):Int)) Kr (ZD k (by omega)) (Z4 (x:=(k,xs_,A_xs_,za)) (k+1,xs_,A_xs_,za) ⟨by omega,hI.trans (by rw[hd];exact Ze h2 (rfl)),sl⟩ (mN hlt) Kr (sb 62))))))))
  ·have hd:=Qb h1
   refine TC.exit (ZT (ZT (Z0 ?_)))
   exact TE.cut (xs_,A_xs_,za) (⟨hI.trans (by rw[hd];exact rfl),sl⟩) Kr (sb 31)
 ·rintro⟨ja,A_xs__2,jh⟩ ⟨hJ,dx⟩
  refine YC (Zc 1 [1] [(29,.slice A_xs__2 ja.length jh)] {} (VI (Γ:=AN) 30 (XO ja 500) (fun r1 g=>.tuple #[.slice g.1 r1.1.length g.2,.i r1.2]) (fun r1 g=>[Ow g.1 g.2 44 20 (r1.1.map Za.c)]) (fun w hM=>Fj A_xs__2 jh ja 500 w (hM.rd_at 0 rfl) (hM.le_at 0 rfl)) {} (fun r1 hr1=>?_)))
  rintro⟨A_2,c_2⟩
  refine Y3 (fun w hM=>hM.short_at 0 rfl) (fun dy=>Zc 5 [] [(31,.slice A_2 r1.1.length c_2)] {} (Yp 2 (Bk b2 #[.slice A_2 r1.1.length c_2] 31) (fun _=>{}) (Zb rfl (TC.region (Zc 6 [4] [(33,.p0 b_t),(37,.slice A_t_all t.all.length qf),(38,.func (.func 116) #[] #[.p0 b1,.p0 b2])] {} (Xm [Ow A_t_all qf 122 23 (t.all.map followed.c),Bk b1 #[.i time] 3,Bk b2 #[.slice A_2 r1.1.length c_2] 31,Ow A_2 c_2 44 20 (r1.1.map Za.c),Ow A_xs__2 jh 44 20 (ja.map Za.c),Bk b_t (Zi.k t A_t_all qf) 118] (fun _ hM=>hM.perm (px [5,3,2,0,1,4])) (Be (Γ:=Unit) 4 39 (XP t.all time r1.1) (fun r2 _=>.slice A_t_all r2.length qf) (fun r2 _=>[Ow A_t_all qf 122 23 (r2.map followed.c),Bk b1 #[.i time] 3,Bk b2 #[.slice A_2 r1.1.length c_2] 31,Ow A_2 c_2 44 20 (r1.1.map Za.c)]) [Ow A_t_all qf 122 23 (t.all.map followed.c),Bk b1 #[.i time] 3,Bk b2 #[.slice A_2 r1.1.length c_2] 31,Ow A_2 c_2 44 20 (r1.1.map Za.c)] Kr (fun w hM=>WS A_t_all qf t.all b1 time b2 A_2 c_2 r1.1 w hM) {} (fun r2 hr2=>?_))))))))
  intro _
  refine Zc 9 [] [(41,.pt b_t 6)] {} (Yp 5 (Bk b_t (Zi.k (⟨t.rules,r2,t.next,t.last⟩:Zi) A_t_all qf) 118) (fun _=>{}) (Zw rfl ?_))
  have e:ZR t time=(⟨t.rules,r2,t.next,t.last⟩:Zi):=by subst hr1 hr2;unfold ZR;exact Yr (hR.symm.trans hJ) (rfl)
  refine Yi [Bk b_t (Zi.k (⟨t.rules,r2,t.next,t.last⟩:Zi) A_t_all qf) 118,Ow A_t_all qf 122 23 (r2.map followed.c),Bk b1 #[.i time] 3,Bk b2 #[.slice A_2 r1.1.length c_2] 31,Ow A_2 c_2 44 20 (r1.1.map Za.c),Ow A_xs__2 jh 44 20 (ja.map Za.c)] (fun _ hM=>hM.perm (px [5,0,1,2,3,4])) ?_
  rw[e]
  exact ZO (.inr rfl) (A_t_all,qf) [] (.tuple #[]) {} rfl (fun _ hM=>hM.sub (sb 3))
end Go.Sky
end
section
namespace Go.Sky
open Go Go.Eng Go.Proofs
def Qo (a:Zj) (b_:Zj) (qi:Int):Bool :=
 cond (((a.Time==b_.Time)&&(a.Code==b_.Code))&&(a.Code != (-1))) (
  let r1:=ZX a.At b_.At (w64 (a.Error+b_.Error))
  cond r1 (
   let r2:=Vz a.Height b_.Height qi
   r2) (
   false)) (
  false)
theorem N6 (a:Zj) (b_:Zj) (qi:Int) (w:World):Calls Tryz.prog 88 #[Zj.v a,Zj.v b_,.int .i64 qi] w (Ret w (.bool (Qo a b_ qi))):=by
 refine Zp (vs:=[Zj.v a,Zj.v b_,.i qi]) (w:=w) Tryz.func88 rfl Tryz.ntmps88 rfl (Zf (ZA 3 (fun b1=>.p0 b1) (fun b1=>Bk b1 (Zj.c a) 42) (fun b1=>{}) (fun b1=>ZA 4 (fun b2=>.p0 b2) (fun b2=>Bk b2 (Zj.c b_) 42) (fun b2=>{}) (fun b2=>Zc 3 [] [(6,.b false)] {} (Zz (Zc 6 [1,0] [(12,.b (a.Time==b_.Time))] {} (XM 12 (a.Time==b_.Time) 12 [1,0] [] (fun β=>[(18,.b (β&&(a.Code==b_.Code)))]) Kr {} {} (Zc 13 [] [(19,.b ((a.Time==b_.Time)&&(a.Code==b_.Code)))] {} (XM 19 ((a.Time==b_.Time)&&(a.Code==b_.Code)) 17 [1] [] (fun β=>[(23,.b (β&&(a.Code != (-1))))]) Kr {} {} (Zc 18 [] [(24,.b (((a.Time==b_.Time)&&(a.Code==b_.Code))&&(a.Code != (-1))))] {} (Yy 24 (((a.Time==b_.Time)&&(a.Code==b_.Code))&&(a.Code != (-1))) Kr (fun h1=>?_) (fun h1=>?_))))))))))))
 ·refine Zc 27 [1,0,1,0] [(26,P.v a.At),(28,P.v b_.At),(33,.i (w64 (a.Error+b_.Error)))] {} (TL.c 34 (ZX a.At b_.At (w64 (a.Error+b_.Error))) (fun r1=>.b r1) (fun w _=>QR a.At b_.At (w64 (a.Error+b_.Error)) w) {} (fun r1 hr1=>Zc 30 [] [(36,.b r1)] {} (Yy 36 r1 Kr (fun h2=>?_) (fun h2=>?_))))
  ·exact Zc 35 [1,0] [(38,.i a.Height),(40,.i b_.Height),(41,.i qi)] {} (TL.c 42 (Vz a.Height b_.Height qi) (fun r2=>.b r2) (fun w _=>HT a.Height b_.Height qi w) {} (fun r2 hr2=>Zc 38 [] [(6,.b r2)] {} (Zb rfl (TC.ret (TE.ret [] (.b r2) {} (by unfold Qo;refine eS (fun z=>(.b z:Value)) ?_;subst hr1 hr2;exact Zm h1 (Zm h2 (rfl))))))))
  ·exact Zc 38 [] [(6,.b false)] {} (Zb rfl (TC.ret (TE.ret [] (.b false) {} (by unfold Qo;refine eS (fun z=>(.b z:Value)) ?_;subst hr1;exact Zm h1 (Ze h2 (rfl))))))
 ·exact Zc 38 [] [(6,.b false)] {} (Zb rfl (TC.ret (TE.ret [] (.b false) {} (by unfold Qo;refine eS (fun z=>(.b z:Value)) ?_;exact Ze h1 (rfl)))))
def YN (s:List Zj):List Zj :=
 s
theorem Vl (A_s:Option Addr) (c_s:Nat) (s:List Zj) (w:World) (h_s:Rd w 6 A_s (s.map Zj.c)) (_hc_s:s.length≤c_s) (hb:s.length*48≤140737488355328):Calls Tryz.prog 83 #[.slice A_s s.length c_s] w (JH (Γ:=(Option Addr×Nat)) (cx w) (fun g=>.slice g.1 ((YN s).length) g.2) (fun g=>[.inr (Own g.1 g.2 42 6 ((YN s).map Zj.c))])):=by
 have s_s:=h_s.short;rw[aD] at s_s
 rcases A_s with _|a
 ·have hz:s=[]:=La h_s
  subst hz
  refine Zp (vs:=[.slice none 0 c_s]) (w:=w) Tryz.func83 rfl Tryz.ntmps83 rfl (JG [(0,.slice none 0 c_s)] Kr (Zf (Zc 1 [] [(2,.slice none 0 0)] {} (Z1 (Zf (Zc 2 [] [(4,.b true)] {} (Zb rfl (Xg rfl Kr (Zf (Zc 1 [] [(2,.slice none 0 0)] {} (Zb rfl (TC.ret (Zo ?_)))))))))))))
  have e:YN []=([]):=rfl
  refine Yi [Ow none 0 42 6 (([]:List Zj).map Zj.c)] (fun _ hM=>hM.emptyrow none 42 6) ?_
  rw[e]
  exact ZO (.inl rfl) (none,0) [] (.slice none 0 0) {} rfl (fun _ hM=>hM.sub (sb 1))
 ·refine Zp (vs:=[.slice (some a) s.length c_s]) (w:=w) Tryz.func83 rfl Tryz.ntmps83 rfl (JG [(0,.slice (some a) s.length c_s)] Kr (Zf (Zc 1 [] [(2,.slice none 0 0)] {} (Z1 (Zf (Zc 2 [] [(4,.b false)] {} (Zb rfl (J1 rfl Kr (Yc (ZA 5 (fun b1=>.slice (Pa b1) 0 0) (fun b1=>Bk b1 #[] 42) (fun b1=>{}) (fun b1=>Zc 2 [] [(6,.slice (some a) s.length c_s)] {} (Xm [Ow (Pa b1) 0 42 6 (([]:List Zj).map Zj.c)] (fun _ hM=>by exact hM.litrow 0 (([]:List Zj).map Zj.c) rfl Kr Kr Kr Kr) (TL.os (Γ:=AN) (sV (Builtin.append_ #[52,52] 52 #[.slice (Pa b1) (([]:List Zj).length) 0,.slice (some a) s.length c_s])) 7 (fun g=>.slice g.1 (([]:List Zj)++s).length g.2) 0 (fun g=>Ow g.1 g.2 42 6 ((([]:List Zj)++s).map Zj.c)) (QE (bytes:=48) 52 0 s Kr rfl rfl Zj.one rfl (fun w hM=>(h_s.sat hM)) rfl sa) {} ?_)))))))))))))
  rintro⟨A,c⟩
  refine Zc 4 [] [(2,.slice A ((([]:List Zj)++s).length) c)] {} (Zb rfl (TC.ret ?_))
  have e:YN s=(([]:List Zj)++s):=rfl
  rw[e]
  exact ZO (.inl rfl) (A,c) [] (.slice A ((([]:List Zj)++s).length) c) {} rfl (fun _ hM=>hM.sub (sb 1))
def KN (x:Zj) (x_2:Zj) (x_3:Int):Bool :=
 let r1:=Qo x x_2 x_3
 r1
theorem BQ (x:Zj) (vg:Addr) (x_2:Zj) (kq:Addr) (x_3:Int) (w:World) (uo:Rd w 6 (some vg) [Zj.c x_2]) (gw:Rd w 1 (some kq) [ic x_3]):Calls Tryz.prog 87 #[Zj.v x,.pointer (some vg),.pointer (some kq)] w (Ret w (.bool (KN x x_2 x_3))):=by
 exact Zp (vs:=[Zj.v x,.pointer (some vg),.pointer (some kq)]) (w:=w) Tryz.func87 rfl Tryz.ntmps87 rfl (Zf (ZA 3 (fun b1=>.p0 b1) (fun b1=>Bk b1 (Zj.c x) 42) (fun b1=>{}) (fun b1=>Zc 2 [] [(4,.b false)] {} (Zz (Zc 1 [0] [(5,Zj.v x)] {} (TL.v (sV (Instr.loadAt 42 (.pointer (some vg)))) 6 (Zj.v x_2) (fun w hM=>Z9 (n:=6) (off:=0) (Zj.v x_2) (uo.sat hM) (XU _) Kr Kr Kr) {} (TL.v (sV (Instr.loadAt 3 (.pointer (some kq)))) 7 (.i x_3) (fun w hM=>Zu (off:=0) (.i x_3) (gw.sat hM) (XU _) Kr Kr) {} (TL.c 8 (Qo x x_2 x_3) (fun r1=>.b r1) (fun w _=>N6 x x_2 x_3 w) {} (fun r1 hr1=>Zc 5 [] [(4,.b r1)] {} (Zb rfl (TC.ret (TE.ret [] (.b r1) {} (by unfold KN;refine eS (fun z=>(.b z:Value)) ?_;subst hr1;exact rfl)))))))))))))
def XZ (c0:Zj) (c1:Int):List Zj→Nat→((Unit) ⊕ (Int))
 | [],_=>.inl ()
 | x::xs,k=>let r1:=KN x c0 c1
  cond r1 (
   .inr (k:Int)) (
   XZ c0 c1 xs (k+1))
def Jw (s:List Zj) (c0:Zj) (c1:Int):Int :=
 Sum.elim (fun _ =>
  (-1)) (fun r=>r) (XZ c0 c1 s 0)
theorem H4 (A_s:Option Addr) (c_s:Nat) (s:List Zj) (jc:Addr) (c0:Zj) (wb:Addr) (c1:Int) (w:World) (h_s:Rd w 6 A_s (s.map Zj.c)) (_hc_s:s.length≤c_s) (y6:Rd w 6 (some jc) [Zj.c c0]) (dv:Rd w 1 (some wb) [ic c1]):Calls Tryz.prog 144 #[.slice A_s s.length c_s,.func (.func 87) #[] #[.pointer (some jc),.pointer (some wb)]] w (Ret w (.int .i64 (Jw s c0 c1))):=by
 have s_s:=h_s.short;rw[aD] at s_s
 refine Zp (vs:=[.slice A_s s.length c_s,.func (.func 87) #[] #[.pointer (some jc),.pointer (some wb)]]) (w:=w) Tryz.func144 rfl Tryz.ntmps144 rfl (Zf (Zc 1 [] [(4,.i 0)] {} (Z1 (Zf (Zc 3 [] [(7,.i (s.length:Int)),(8,.i 0)] {} (Zb rfl ?_))))))
 obtain⟨R1,hR⟩:∃ R,R=XZ c0 c1 s 0:=⟨_,rfl⟩
 refine TC.cut (S:=Unit) (fun (_:Unit)=>[]) (fun (_:Unit)=>[]) (fun (_:Unit)=>R1=.inl ()) ?_ ?_
 ·refine TC.block (Xp (X:=Nat) (fun k=>[(0,.slice A_s s.length c_s),(1,.func (.func 87) #[] #[.pointer (some jc),.pointer (some wb)]),(7,.i (s.length:Int)),(8,.i (k:Int))]) (fun k=>[]) (fun k=>s.length-k) (fun k=>k≤s.length∧R1=XZ c0 c1 (s.drop k) k) ?_ 0 ⟨aP _,hR⟩ Kr (sb 0))
  rintro k ⟨hk,hI⟩
  refine Zf (Zc 1 [] [(9,.b (decide ((k:Int)<(s.length:Int))))] {} (Z1 (TC.cond (decide ((k:Int)<(s.length:Int))) rfl Kr (fun h1=>?_) (fun h1=>?_))))
  ·have hlt:=ltN h1
   obtain⟨x,hx⟩:=elN hlt
   have hd:=drop_at hx
   refine Yg (TC.seq (TC.block (Zf (Zc 2 [] [(5,.i (k:Int))] {} (Zz (Zc 3 [] [(11,.func (.func 87) #[] #[.pointer (some jc),.pointer (some wb)]),(12,.slice A_s s.length c_s),(13,.i (k:Int))] {} (TL.v (sV (Instr.indexAt 52 (.slice A_s s.length c_s) (.i (k:Int)))) 14 (.pointer (some (Ix A_s (k*6)))) (fun w hM=>Zr (h_s.sat hM) (by simp) Kr sd sd) {} (TL.v (sV (Instr.loadAt 42 (.pointer (some (Ix A_s (k*6)))))) 15 (Zj.v x) (fun w hM=>Z9 (n:=6) (off:=0) (i:=k) (Zj.v x) (h_s.sat hM) (Z6 hx) Kr Kr Kr) {} (TL.c 16 (KN x c0 c1) (fun r1=>.b r1) (fun w hM=>BQ x jc c0 wb c1 w (y6.sat hM) (dv.sat hM)) {} (fun r1 hr1=>Zb rfl (TC.cond r1 rfl Kr (fun h2=>?_) (fun h2=>?_))))))))))))
   ·refine Zf (Zc 2 [] [(4,.i (k:Int))] {} (Zb rfl (TC.ret (ZL (Zo (Zo (ZL (Zo (Zo ?_)))))))))
    exact TE.ret [] (.i (k:Int)) {} (by unfold Jw;refine eS (fun z=>(.i z:Value)) ?_;subst hr1;exact Xh (hR.symm.trans (hI.trans (by rw[hd];exact Zm h2 (rfl)))) rfl)
   ·exact TC.skip (ZY (Z3 (TC.region (Zc 2 [] [(8,.i (w64 ((k:Int)+1)))] {} (Zw rfl (TE.rw 8 (.i (w64 ((k:Int)+1))) (.i ((k+1:Nat):Int)) Kr (ZD k (by omega)) (Z4 (x:=k) (k+1) ⟨by omega,hI.trans (by subst hr1;rw[hd];exact Ze h2 (rfl))⟩ (mN hlt) Kr (sb 0))))))))
  ·have hd:=Qb h1
   refine TC.exit (ZT (ZT (Z0 ?_)))
   exact TE.cut () (hI.trans (by rw[hd];exact rfl)) Kr (sb 0)
 ·intro _ hJ
  exact YC (Zc 1 [] [(4,.i (-1))] {} (Zb rfl (TC.ret (TE.ret [] (.i (-1)) {} (by unfold Jw;refine eS (fun z=>(.i z:Value)) ?_;exact Q3 (hR.symm.trans hJ) (rfl))))))
def XL (s:List Zj) (c0:Zj) (c1:Int):Bool :=
 let r1:=Jw s c0 c1
 decide (r1≥0)
theorem Wa (A_s:Option Addr) (c_s:Nat) (s:List Zj) (jc:Addr) (c0:Zj) (wb:Addr) (c1:Int) (w:World) (h_s:Rd w 6 A_s (s.map Zj.c)) (du:s.length≤c_s) (y6:Rd w 6 (some jc) [Zj.c c0]) (dv:Rd w 1 (some wb) [ic c1]):Calls Tryz.prog 86 #[.slice A_s s.length c_s,.func (.func 87) #[] #[.pointer (some jc),.pointer (some wb)]] w (Ret w (.bool (XL s c0 c1))):=by
 have s_s:=h_s.short;rw[aD] at s_s
 exact Zp (vs:=[.slice A_s s.length c_s,.func (.func 87) #[] #[.pointer (some jc),.pointer (some wb)]]) (w:=w) Tryz.func86 rfl Tryz.ntmps86 rfl (Zf (Zc 1 [] [(4,.b false)] {} (Zz (Zc 2 [] [(5,.slice A_s s.length c_s),(6,.func (.func 87) #[] #[.pointer (some jc),.pointer (some wb)])] {} (TL.c 7 (Jw s c0 c1) (fun r1=>.i r1) (fun w hM=>H4 A_s c_s s jc c0 wb c1 w (h_s.sat hM) du (y6.sat hM) (dv.sat hM)) {} (fun r1 hr1=>Zc 5 [] [(4,.b (decide (r1≥0)))] {} (Zb rfl (TC.ret (TE.ret [] (.b (decide (r1≥0))) {} (by unfold XL;refine eS (fun z=>(.b z:Value)) ?_;subst hr1;exact rfl))))))))))
end Go.Sky
end
section
namespace Go.Sky
open Go Go.Eng Go.Proofs
def Xr (a:Zj) (b_:Zj):Int :=
 let r1:=cmp_Compare_int a.Time b_.Time
 let r2:=cmp_Compare_int a.Error b_.Error
 let r3:=cmp_Compare_int a.At.X b_.At.X
 let r4:=cmp_Compare_int a.At.Y b_.At.Y
 let r5:=cmp_Compare_int a.Height b_.Height
 let r6:=cmp_Compare_int a.Code b_.Code
 let r7:=Kq ([r1,r2,r3,r4,r5,r6])
 r7
theorem BR (a:Zj) (b_:Zj) (w:World):Calls Tryz.prog 85 #[Zj.v a,Zj.v b_] w (Ret w (.int .i64 (Xr a b_))):=by
 exact Zp (vs:=[Zj.v a,Zj.v b_]) (w:=w) Tryz.func85 rfl Tryz.ntmps85 rfl (Zf (ZA 2 (fun b1=>.p0 b1) (fun b1=>Bk b1 (Zj.c a) 42) (fun b1=>{}) (fun b1=>ZA 3 (fun b2=>.p0 b2) (fun b2=>Bk b2 (Zj.c b_) 42) (fun b2=>{}) (fun b2=>Zc 3 [] [(4,.i 0)] {} (Z1 (Ko 34 Kr Kr (YY 4 [1,0] [(6,.i a.Time),(8,.i b_.Time)] {} (TQ.c 9 (cmp_Compare_int a.Time b_.Time) (fun r1=>.i r1) (fun w _=>Y0 a.Time b_.Time w) rfl {} (fun r1 hr1=>YY 9 [1,0] [(11,.i a.Error),(13,.i b_.Error)] {} (TQ.c 14 (cmp_Compare_int a.Error b_.Error) (fun r2=>.i r2) (fun w _=>Y0 a.Error b_.Error w) rfl {} (fun r2 hr2=>YY 16 [1,0] [(17,.i a.At.X),(20,.i b_.At.X)] {} (TQ.c 21 (cmp_Compare_int a.At.X b_.At.X) (fun r3=>.i r3) (fun w _=>Y0 a.At.X b_.At.X w) rfl {} (fun r3 hr3=>YY 23 [1,0] [(24,.i a.At.Y),(27,.i b_.At.Y)] {} (TQ.c 28 (cmp_Compare_int a.At.Y b_.At.Y) (fun r4=>.i r4) (fun w _=>Y0 a.At.Y b_.At.Y w) rfl {} (fun r4 hr4=>YY 28 [1,0] [(30,.i a.Height),(32,.i b_.Height)] {} (TQ.c 33 (cmp_Compare_int a.Height b_.Height) (fun r5=>.i r5) (fun w _=>Y0 a.Height b_.Height w) rfl {} (fun r5 hr5=>YY 33 [1,0] [(35,.i a.Code),(37,.i b_.Code)] {} (TQ.c 38 (cmp_Compare_int a.Code b_.Code) (fun r6=>.i r6) (fun w _=>Y0 a.Code b_.Code w) rfl {} (fun r6 hr6=>TQ.tail rfl (ZA 39 (fun b3=>.slice (Pa b3) 6 6) (fun b3=>Bk b3 #[.i r1,.i r2,.i r3,.i r4,.i r5,.i r6] 3) (fun b3=>{}) (fun b3=>TL.c 40 (Kq ([r1,r2,r3,r4,r5,r6])) (fun r7=>.i r7) (fun w hM=>UT (Pa b3) 6 ([r1,r2,r3,r4,r5,r6]) w (Rd.lit hM 0 _ rfl Kr Kr Kr) (aU _)) {} (fun r7 hr7=>Zc 37 [] [(4,.i r7)] {} (Zb rfl (TC.ret (TE.ret [] (.i r7) {} (by unfold Xr;refine eS (fun z=>(.i z:Value)) ?_;subst hr1 hr2 hr3 hr4 hr5 hr6 hr7;exact rfl))))))))))))))))))))))))))
end Go.Sky
end
section
namespace Go.Eng
open Go.Sort Go.Proofs Go.Shelf
theorem flat_get {sz:Nat}:∀ (rows:List (Array Value)) (i j:Nat) (r:Array Value),(∀ r∈rows,r.size=sz)→rows[i]?=some r→j<sz→(flat rows)[i*sz+j]?=r[j]?
 | [],i,j,r,_,hi,_=>by simp at hi
 | r0::rows,0,j,r,jl,hi,hj=>by
  have h0:=jl r0 (by simp)
  simp only[cF,aF] at hi
  subst hi
  rw[KG,eX,bY,dY (by rw[bC,h0];exact hj),bI]
 | r0::rows,i+1,j,r,jl,hi,hj=>by
  have h0:=jl r0 (by simp)
  rw[bG] at hi
  have e:(i+1)*sz+j-sz=i*sz+j:=by rw[dF];omega
  rw[KG,gJ (by rw[bC,h0,dF];omega),bC,h0,e]
  exact flat_get rows i j r (fun r hr=>jl r (by simp[hr])) hi hj
section
variable {α:Type} [Inhabited α]
theorem BS {c:α→Array Value} {k:Nat} (hk:∀ x,(c x).size=k) (l:List α):(flatK (fun x=>(c x).toList) k l.toArray).toList=flat (l.map c):=by
 have jl:∀ r∈l.map c,r.size=k:=by
  intro r hr
  obtain⟨x,_,rfl⟩:=bD.1 hr
  exact hk x
 have hl:=JA (l.map c) jl
 rw[aD] at hl
 apply fJ
 intro t
 by_cases ht:t<l.length*k
 ·have hk0:0<k:=by
   rcases bX k with h|h
   ·rw[h,gX] at ht;omega
   ·exact h
  have hi:t/k<l.length:=(dG hk0).2 ht
  have hj:t%k<k:=fE _ hk0
  have hg:=flat_get (l.map c) (t/k) (t%k) (c (l[t/k]'hi)) jl (by rw[aT,aM hi];rfl) hj
  have et:t/k*k+t%k=t:=by rw[eI];exact gZ t k
  rw[et] at hg
  rw[hg]
  have hs:t<(flatK (fun x=>(c x).toList) k l.toArray).size:=by rw[size_flatK];simpa using ht
  rw[bI,cI hs]
  have hx:=get_flatK (fun x=>(c x).toList) k l.toArray t (by simpa using ht)
  rw[getElem!_pos (flatK (fun x=>(c x).toList) k l.toArray) t hs] at hx
  rw[hx]
  have hsz:t%k<(c (l[t/k]'hi)).size:=by rw[hk];exact hj
  rw[cI hsz]
  have e1:(l.toArray)[t/k]! = l[t/k]'hi:=by
   rw[getElem!_pos l.toArray (t/k) (by simpa using hi)];simp
  rw[e1,getElem!_pos ((c (l[t/k]'hi)).toList) (t%k) (by simpa using hsz)]
  simp
 ·rw[cR (by rw[bC,size_flatK];simpa using Nat.le_of_not_lt ht),cR (by rw[hl];omega)]
theorem PN {w:World} {g:Nat} {cur:Array Value} {e:TypeId} {vs:Array Value} (hb:w.heap[g]?=some (.cells cur e (0,0))) (ht:cur.toList.take vs.size=vs.toList):Holds id w g 0 vs:=by
 intro j hj
 refine⟨?_,by simp[World.frozen?,hb]⟩
 have h1:(cur.toList.take vs.size)[j]?=vs.toList[j]?:=by rw[ht]
 rw[eC hj,bI,bI] at h1
 simp only[World.cell?,hb,bY]
 simp only[Option.isSome_none,fG,if_false]
 rw[h1]
 simp[hj]
theorem Eu {w:World} {g n:Nat} {os:Array Obj} {cur:Array Value} {e:TypeId} {fr:Nat×Nat} (d:Array Value) (hb:w.heap[g]?=some (.cells cur e fr)) :
  (grow (putRow id (Sort.ahead w n) g 0 d) os).heap[g]?=some (.cells (putCells id 0 d cur) e fr):=by
 have hg:g<w.heap.size:=(bW.1 hb).1
 rw[heap_grow_old _ _ (by simpa using hg)]
 simp[putRow,mapBlock,Sort.ahead,Array.getElem?_modify,hb,onCells]
theorem PO {w:World} {g n:Nat} {os:Array Obj} (d:Array Value):w.grownBy (grow (putRow id (Sort.ahead w n) g 0 d) os) (some g):=by
 refine⟨rfl,rfl,rfl,by simp,fun k hk hne=>?_⟩
 rw[heap_grow_old _ _ (by simpa using hk)]
 have:g≠k:=fun e=>hne (by rw[e])
 simp[putRow,mapBlock,Sort.ahead,Array.getElem?_modify,this]
theorem Ew (cur:Array Value) (vs:Array Value) (h:vs.size≤cur.size):(putCells id 0 vs cur).toList.take vs.size=vs.toList:=by
 apply fJ
 intro j
 by_cases hj:j<vs.size
 ·rw[eC hj,bI,bI]
  simp[putCells,hj,show j<cur.size by omega]
 ·rw[List.getElem?_take_eq_none (by omega),cR (by simp;omega)]
theorem BU {w w':World} (h:Below w.heap.size w w'):∃ q os',w'=grow (w.drewN q) os':=by
 refine⟨w'.drawn-w.drawn,w'.heap.extract w.heap.size w'.heap.size,?_⟩
 have hd:w.drawn+(w'.drawn-w.drawn)=w'.drawn:=by have:=h.drawn;omega
 have hh:w.heap++w'.heap.extract w.heap.size w'.heap.size=w'.heap:=by
  apply Array.ext_getElem?
  intro i
  by_cases hi:i<w.heap.size
  ·rw[gH hi];exact(h.block i hi).symm
  ·rw[Array.getElem?_append_right (by omega)]
   by_cases hi2:i<w'.heap.size
   ·rw[Array.getElem?_extract]
    simp only[show i-w.heap.size<min w'.heap.size w'.heap.size-w.heap.size by omega,if_true]
    congr 1;omega
   ·rw[eH (by simp;omega),eH (by omega)]
 obtain⟨h1,t1,d1,o1,u1⟩:=w
 obtain⟨h2,t2,d2,o2,u2⟩:=w'
 have a:=h.os
 have b:=h.tape
 have c:=h.output
 simp only at a b c hd hh
 subst a b c
 show World.mk h2 t2 d2 o2 u2=World.mk _ _ _ _ _
 congr 1
 ·exact hh.symm
 ·exact hd.symm
theorem Lu {P:Program} {ρ:Ren} (L:SlLaysF0.n6 P ρ) {k:Nat} {c:α→Array Value} (aE:∀ w,(isAgg (ρ.t 24)).run P w=.ok true w) (zE:∀ w,(Go.sizeOf (ρ.t 24)).run P w=.ok k w) (hk:∀ x,(c x).size=k) (h1:∀ x,∀ v∈(c x).toList,v.oneCell'=true)
  (cf:α→α→Int) (hO:SWO (ltOf cf)) (g:Nat) (eg:∀ args w,(callFunc g args).run P w=.ok (.enter g args) w) (oy:∀ x y W,Calls P g #[.agg (c x),.agg (c y)] W (Ret W (.int .i64 (cf x y)))) (hT:∀ x y,ltOf cf x y=false→ltOf cf y x=false→x=y) (A:Option Addr) (cap e:Nat) (l:List α) (w:World)
  (hM:Sat ⟨w,XR [.inr (Own A cap e k (l.map c))]⟩ [.inr (Own A cap e k (l.map c))] w) :
  Calls P (ρ.f 6) #[.slice A l.length cap,.func (.func g) #[] #[]] w (JH (Γ:=List α) ⟨w,XR [.inr (Own A cap e k (l.map c))]⟩ (fun _=>.tuple #[])
   (fun r=>[.inr (Qm (r.length=l.length∧r=l.mergeSort (fun x y=>!ltOf cf y x))),.inr (Own A cap e k (r.map c))])):=by
 rcases hM.own_at 0 rfl with ⟨hc,hr⟩|⟨b,cur,h⟩
 ·have hl:l=[]:=by simpa using hr
  subst hl
  refine(AnyF.slices_SortFunc_none L A cap _ w).mono ?_
  rintro en w' ⟨rfl,rfl⟩
  exact⟨[],rfl,hM.fact (by simp)⟩
 ·have hl:(l.map c).length=l.length:=by simp
  have hat:=h.at_;subst hat
  have hh:=h.heap
  have cv:=BS hk l
  have hvs:(flatK (fun x=>(c x).toList) k l.toArray).size=l.length*k:=by rw[size_flatK];simp
  have ht:cur.toList.take (flatK (fun x=>(c x).toList) k l.toArray).size=(flatK (fun x=>(c x).toList) k l.toArray).toList:=by
   rw[cv,hvs]
   have:=h.holds
   rwa [hl] at this
  have hcl:CmpLays P g #[] (fun x=>(c x).toList) k cf b 0 l.toArray.size w:=by
   intro m os dk _ x y
   refine(oy x y _).mono ?_
   rintro en w' ⟨he,hb⟩
   exact⟨he,BU hb⟩
  have oz:l.toArray.size<4611686018427387904:=by have:=h.short;rw[hl] at this;simpa using this
  have cw:=AnyQ.slices_SortFunc_total L k aE zE (fun x=>(c x).toList) (fun x=>by rw[bC,hk]) h1 cf hO g #[] b 0 cap l.toArray w eg hcl (PN hh ht) (WH hh) oz hT
  rw[eV] at cw
  refine cw.mono ?_
  rintro en w' ⟨rfl,n,os,rfl⟩
  obtain⟨d',hd'⟩:∃ d',d'=(l.toArray.toList.mergeSort fun x y=>!(ltOf cf) y x).toArray:=⟨_,rfl⟩
  rw[← hd']
  have hds:d'.toList=l.mergeSort fun x y=>!(ltOf cf) y x:=by rw[hd']
  have hdl:d'.toList.length=l.length:=by rw[hds,List.length_mergeSort]
  have dz:=BS hk d'.toList
  rw[Array.toArray_toList] at dz
  have cy:(flatK (fun x=>(c x).toList) k d').size=l.length*k:=by rw[size_flatK,← hdl,bC]
  have hle:=h.le;rw[hl] at hle
  have hsz:=h.size
  have hG:=PO (w:=w) (g:=b) (n:=n) (os:=os) (flatK (fun x=>(c x).toList) k d')
  have hB:=Eu (w:=w) (g:=b) (n:=n) (os:=os) (cur:=cur) (e:=e) (fr:=(0,0)) (flatK (fun x=>(c x).toList) k d') hh
  refine⟨d'.toList,rfl,Sat.fact ?_ ⟨hdl,hds⟩⟩
  ·refine hM.step (j:=0) (e':=.inr (Own (some ⟨b,0,none⟩) cap e k (d'.toList.map c))) rfl ⟨hG.os,hG.tape,hG.output,hG.size,fun q hq hf=>hG.block q hq (fun he=>hf ?_),gW _ _⟩ ?_ (fun b hb=>.inl hb)
   ·simp only[aF] at he
    exact⟨h.pos,_,rfl,he.symm⟩
   ·refine .inr ⟨b,putCells id 0 (flatK (fun x=>(c x).toList) k d') cur,rfl,h.pos,hB,by rw[aD,hdl];exact hle,h.max,by simp[putCells,hsz],?_,?_,?_⟩
    ·rw[aD,hdl,← cy,Ew cur _ (by rw[cy,hsz];exact bS _ hle),dz]
    ·intro r hr
     obtain⟨x,_,rfl⟩:=bD.1 hr
     exact hk x
    ·rw[aD,hdl];have:=h.short;rwa [hl] at this
end
end Go.Eng
end
section
namespace Go.Proofs
open Go.Shelf
def Tryz.laysSpot_ren:Go.Shelf.Ren:=⟨fun|6=>84|15=>141|14=>140|28=>179|29=>169|20=>171|21=>172|22=>173|23=>174|24=>175|25=>176|26=>177|27=>178|46=>203|47=>204|48=>205|49=>206|50=>207|57=>227|n=>n,fun|22=>52|24=>42|25=>173|3=>3|39=>227|0=>0|53=>251|55=>162|4=>4|46=>245|45=>244|50=>208|5=>5|9=>9|66=>268|70=>272|76=>280|77=>148|n=>n,fun|n=>n⟩
theorem Tryz.laysSpot:SlLaysF0.n6 Tryz.prog Tryz.laysSpot_ren:={
 mixed:=by kernel_rfl,
 f6:=⟨Tryz.f84.name,by decide,Tryz.func84.trans (congrArg some (by kernel_rfl))⟩,
 f14:=⟨Tryz.f140.name,by decide,Tryz.func140.trans (congrArg some (by kernel_rfl))⟩,
 f15:=Tryz.func141.trans (congrArg some (by kernel_rfl)),
 f20:=⟨Tryz.f171.name,by decide,Tryz.func171.trans (congrArg some (by kernel_rfl))⟩,
 f21:=⟨Tryz.f172.name,by decide,Tryz.func172.trans (congrArg some (by kernel_rfl))⟩,
 f22:=⟨Tryz.f173.name,by decide,Tryz.func173.trans (congrArg some (by kernel_rfl))⟩,
 f23:=⟨Tryz.f174.name,by decide,Tryz.func174.trans (congrArg some (by kernel_rfl))⟩,
 f24:=⟨Tryz.f175.name,by decide,Tryz.func175.trans (congrArg some (by kernel_rfl))⟩,
 f25:=⟨Tryz.f176.name,by decide,Tryz.func176.trans (congrArg some (by kernel_rfl))⟩,
 f26:=⟨Tryz.f177.name,by decide,Tryz.func177.trans (congrArg some (by kernel_rfl))⟩,
 f27:=⟨Tryz.f178.name,by decide,Tryz.func178.trans (congrArg some (by kernel_rfl))⟩,
 f28:=Tryz.func179.trans (congrArg some (by kernel_rfl)),
 f29:=Tryz.func169.trans (congrArg some (by kernel_rfl)),
 f46:=⟨Tryz.f203.name,by decide,Tryz.func203.trans (congrArg some (by kernel_rfl))⟩,
 f47:=Tryz.func204.trans (congrArg some (by kernel_rfl)),
 f48:=Tryz.func205.trans (congrArg some (by kernel_rfl)),
 f49:=⟨Tryz.f206.name,by decide,Tryz.func206.trans (congrArg some (by kernel_rfl))⟩,
 f50:=⟨Tryz.f207.name,by decide,Tryz.func207.trans (congrArg some (by kernel_rfl))⟩,
 f57:=⟨Tryz.f227.name,by decide,Tryz.func227.trans (congrArg some (by kernel_rfl))⟩,
 t0:=Tryz.underlying0,
 a0:=Tryz.isAgg0,
 z0:=Tryz.sizeOf0,
 v0:=Tryz.zeroValue0,
 t3:=Tryz.underlying3,
 a3:=Tryz.isAgg3,
 z3:=Tryz.sizeOf3,
 v3:=Tryz.zeroValue3,
 t4:=Tryz.underlying4,
 a4:=Tryz.isAgg4,
 z4:=Tryz.sizeOf4,
 v4:=Tryz.zeroValue4,
 t5:=Tryz.underlying5,
 a5:=Tryz.isAgg5,
 z5:=Tryz.sizeOf5,
 v5:=Tryz.zeroValue5,
 t9:=Tryz.underlying9,
 a9:=Tryz.isAgg9,
 z9:=Tryz.sizeOf9,
 v9:=Tryz.zeroValue9,
 t22:=Tryz.underlying52,
 a22:=Tryz.isAgg52,
 z22:=Tryz.sizeOf52,
 v22:=Tryz.zeroValue52,
 t25:=Tryz.underlying173,
 a25:=Tryz.isAgg173,
 z25:=Tryz.sizeOf173,
 v25:=Tryz.zeroValue173,
 t39:=Tryz.underlying227,
 a39:=Tryz.isAgg227,
 z39:=Tryz.sizeOf227,
 v39:=Tryz.zeroValue227,
 t45:=Tryz.underlying244,
 a45:=Tryz.isAgg244,
 z45:=Tryz.sizeOf244,
 v45:=Tryz.zeroValue244,
 t46:=Tryz.underlying245,
 a46:=Tryz.isAgg245,
 z46:=Tryz.sizeOf245,
 v46:=Tryz.zeroValue245,
 t50:=Tryz.underlying208,
 a50:=Tryz.isAgg208,
 z50:=Tryz.sizeOf208,
 v50:=Tryz.zeroValue208,
 t53:=Tryz.underlying251,
 a53:=Tryz.isAgg251,
 z53:=Tryz.sizeOf251,
 v53:=Tryz.zeroValue251,
 t55:=Tryz.underlying162,
 a55:=Tryz.isAgg162,
 z55:=Tryz.sizeOf162,
 v55:=Tryz.zeroValue162,
 t66:=Tryz.underlying268,
 a66:=Tryz.isAgg268,
 z66:=Tryz.sizeOf268,
 v66:=Tryz.zeroValue268,
 t70:=Tryz.underlying272,
 a70:=Tryz.isAgg272,
 z70:=Tryz.sizeOf272,
 v70:=Tryz.zeroValue272,
 t76:=Tryz.underlying280,
 a76:=Tryz.isAgg280,
 z76:=Tryz.sizeOf280,
 v76:=Tryz.zeroValue280,
 t77:=Tryz.underlying148,
 a77:=Tryz.isAgg148,
 z77:=Tryz.sizeOf148,
 v77:=Tryz.zeroValue148 }
end Go.Proofs
end
section
namespace Go.Srt
open Go Go.Eng Go.Sky
def lx:List Int→List Int→Bool
 | x::xs,y::ys=>decide (x<y)||(decide (x=y)&&lx xs ys)
 | _,_=>false
theorem WT:∀ xs ys:List Int,lx xs ys=true→lx ys xs=false
 | [],ys,h=>by cases ys <;> cases h
 | x::xs,[],h=>by cases h
 | x::xs,y::ys,h=>by
  simp only[lx,fX,aX,decide_eq_true_eq] at h
  simp only[lx,cH,fN,decide_eq_false_iff_not]
  rcases h with h|⟨h1,h2⟩
  ·exact⟨by omega,.inl (by omega)⟩
  ·exact⟨by omega,.inr (WT xs ys h2)⟩
theorem RI:∀ xs ys zs:List Int,xs.length=ys.length→ys.length=zs.length→lx xs ys=false→lx ys zs=false→lx xs zs=false
 | [],_,zs,_,_,_,_=>by cases zs <;> rfl
 | x::xs,[],zs,h,_,_,_=>by cases h
 | x::xs,y::ys,[],_,h,_,_=>by cases h
 | x::xs,y::ys,w::zs,h1,h2,h3,h4=>by
  simp only[lx,cH,fN,decide_eq_false_iff_not] at h3 h4 ⊢
  refine⟨by omega,?_⟩
  by_cases e:x=w
  ·have e1:x=y:=by omega
   have e2:y=w:=by omega
   exact .inr (RI xs ys zs (by simpa using h1) (by simpa using h2) (h3.2.resolve_left (fun q=>q e1)) (h4.2.resolve_left (fun q=>q e2)))
  ·exact .inl e
theorem RJ:∀ xs ys:List Int,xs.length=ys.length→lx xs ys=false→lx ys xs=false→xs=ys
 | [],[],_,_,_=>rfl
 | [],y::ys,h,_,_=>by cases h
 | x::xs,[],h,_,_=>by cases h
 | x::xs,y::ys,h1,h2,h3=>by
  simp only[lx,cH,fN,decide_eq_false_iff_not] at h2 h3
  have e:x=y:=by omega
  rw[e,RJ xs ys (by simpa using h1) (h2.2.resolve_left (fun q=>q e)) (h3.2.resolve_left (fun q=>q e.symm))]
theorem Lx (x y:Int):cmp_Compare_int x y=if x<y then -1 else if x>y then 1 else 0:=by
 unfold cmp_Compare_int cmp_isNaN_int
 simp only[bne_self_eq_false,cond_false]
 by_cases h:x<y
 ·rw[decide_eq_true h,cond_true,if_pos h]
 ·rw[decide_eq_false h,cond_false,if_neg h]
  by_cases h2:x>y
  ·rw[decide_eq_true h2,cond_true,if_pos h2]
  ·rw[decide_eq_false h2,cond_false,if_neg h2]
theorem PP:∀ (xs ys:List Int) (k:Nat),xs.length=ys.length→decide (Sum.elim (fun _=>(0:Int)) (fun r=>r) (K1 (List.zipWith cmp_Compare_int xs ys) k)<0)=lx xs ys
 | [],[],k,_=>rfl
 | [],y::ys,k,h=>by cases h
 | x::xs,[],k,h=>by cases h
 | x::xs,y::ys,k,h=>by
  have ih:=PP xs ys (k+1) (by simpa using h)
  rw[List.zipWith_cons_cons]
  unfold K1 lx
  rw[Lx]
  by_cases h1:x<y
  ·rw[if_pos h1,decide_eq_true h1];rfl
  ·rw[if_neg h1,decide_eq_false h1,Bool.false_or]
   by_cases h2:x>y
   ·rw[if_pos h2,decide_eq_false (by omega:¬ x=y)];rfl
   ·rw[if_neg h2,decide_eq_true (by omega:x=y),Bool.true_and];exact ih
end Go.Srt
namespace Go.Srt
open Go Go.Eng Go.Sky Go.Proofs Go.Sort
def Fo (p:Zj):List Int:=[p.Time,p.Error,p.At.X,p.At.Y,p.Height,p.Code]
theorem N7 (x y:Zj):ltOf Xr x y=lx (Fo x) (Fo y):=PP (Fo x) (Fo y) 0 rfl
theorem Zao:SWO (ltOf Xr):=by
 have irr:∀ x,ltOf Xr x x=false:=fun x=>by
  cases h:ltOf Xr x x with
  | false=>rfl
  | true=>rw[N7] at h;rw[WT _ _ h] at h;cases h
 have ntr:∀ x y z,ltOf Xr x y=false→ltOf Xr y z=false→ltOf Xr x z=false:=fun x y z h1 h2=>by
  rw[N7] at h1 h2 ⊢;exact RI (Fo x) (Fo y) (Fo z) rfl rfl h1 h2
 refine⟨irr,fun x y z h1 h2=>?_,ntr⟩
 cases h:ltOf Xr x z with
 | true=>rfl
 | false =>
  exfalso
  have h3:ltOf Xr z y=false:=by rw[N7] at h2 ⊢;exact WT _ _ h2
  rw[ntr x z y h h3] at h1;cases h1
theorem Zap (x y:Zj) (h1:ltOf Xr x y=false) (h2:ltOf Xr y x=false):x=y:=by
 rw[N7] at h1 h2
 have:=RJ (Fo x) (Fo y) rfl h1 h2
 obtain⟨xt,⟨xx,xy⟩,xh,xc,xe⟩:=x
 obtain⟨yt,⟨yx,yy⟩,yh,yc,ye⟩:=y
 simp[Fo] at this
 simp[this]
instance:Inhabited Zj:=⟨Zj.zero⟩
def Gq (l:List Zj):List Zj:=l.mergeSort (fun x y=>!ltOf Xr y x)
theorem Zaq (x y:Zj) (W:World):Calls Tryz.prog 85 #[.agg (Zj.c x),.agg (Zj.c y)] W (Ret W (.int .i64 (Xr x y))):=BR x y W
theorem RL (A:Option Addr) (cap e:Nat) (l:List Zj) (w:World) (hM:Sat ⟨w,XR [.inr (Own A cap e 6 (l.map Zj.c))]⟩ [.inr (Own A cap e 6 (l.map Zj.c))] w) :
  Calls Tryz.prog 84 #[.slice A l.length cap,.func (.func 85) #[] #[]] w (JH (Γ:=List Zj) ⟨w,XR [.inr (Own A cap e 6 (l.map Zj.c))]⟩ (fun _=>.tuple #[])
   (fun r=>[.inr (Qm (r.length=l.length∧r=Gq l)),.inr (Own A cap e 6 (r.map Zj.c))])) :=
 Lu (P:=Tryz.prog) (c:=Zj.c) (k:=6) Tryz.laysSpot (fun _=>by kernel_rfl) (fun _=>by kernel_rfl) (fun _=>rfl) (fun x v hv=>by simp[Zj.c] at hv;rcases hv with rfl|rfl|rfl|rfl|rfl|rfl <;> rfl) Xr Zao 85 (fun _ _=>by kernel_rfl) Zaq Zap A cap e l w hM
end Go.Srt
end
