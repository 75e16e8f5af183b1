/- Lemmas toward the given statement (part 11 of 20): Mm Tb Ra Qa SortLib LaysSpot SortSpot Rb Trk. Each theorem states its own conditions; nothing is assumed beyond them. -/
import Derived.Test.YtmiemlhgkgfkeaaGreatDoorTw10
import Derived.Test.YtmiemlhgkgfkeaaGreatDoorTw03
import Derived.Test.YtmiemlhgkgfkeaaGreatDoorTw02
import Derived.Shelf.SlSortCmp.NoneTotal
import Derived.Shelf.SlLaysF0
import Derived.Test.YtmiemlhgkgfkeaaGreatDoorRows
set_option maxRecDepth 100000
section
namespace Go.Sky
open Go Go.Eng Go.Proofs
def Vd (x:Zl) (x_2:Zl):Bool :=
 x.ID==x_2.ID
theorem HC (x:Zl) (jn:Addr) (x_2:Zl) (w:World) (yu:Rd w 6 (some jn) [Zl.c x_2]):Calls Tryz.prog 68 #[Zl.v x,.pointer (some jn)] w (Ret w (.bool (Vd x x_2))):=by
 exact Zo (vs:=[Zl.v x,.pointer (some jn)]) (w:=w) Tryz.func68 rfl Tryz.ntmps68 rfl (Ze (ZH 2 (fun b1=>.p0 b1) (fun b1=>Bk b1 (Zl.c x) 34) (fun b1=>{}) (fun b1=>Zc 2 [] [(3,.b false)] {} (Zv (Zc 3 [0] [(5,.i x.ID),(6,.pointer (some jn))] {} (TL.v (sV (Instr.loadAt 3 (.pointer (some jn)))) 7 (.i x_2.ID) (fun w hM=>Z3 (off:=0) (.i x_2.ID) (yu.sat hM) (Jk _) Kr Kr) {} (Zc 6 [] [(3,.b (x.ID==x_2.ID))] {} (Zb rfl (TC.ret (TE.ret [] (.b (x.ID==x_2.ID)) {} (by unfold Vd;refine eS (fun z=>(.b z:Value)) ?_;exact rfl)))))))))))
def Kp (c0:Zl):List Zl→Nat→((Unit) ⊕ (Int))
 | [],_=>.inl ()
 | x::xs,k=>let r1:=Vd x c0
  cond r1 (
   .inr (k:Int)) (
   Kp c0 xs (k+1))
def Ky (s:List Zl) (c0:Zl):Int :=
 Sum.elim (fun _ =>
  (-1)) (fun r=>r) (Kp c0 s 0)
theorem HD (A_s:Option Addr) (c_s:Nat) (s:List Zl) (xl:Addr) (c0:Zl) (w:World) (h_s:Rd w 6 A_s (s.map Zl.c)) (_hc_s:s.length≤c_s) (w5:Rd w 6 (some xl) [Zl.c c0]):Calls Tryz.prog 109 #[.slice A_s s.length c_s,.func (.func 68) #[] #[.pointer (some xl)]] w (Ret w (.int .i64 (Ky s c0))):=by
 have s_s:=h_s.short;rw[aF] at s_s
 refine Zo (vs:=[.slice A_s s.length c_s,.func (.func 68) #[] #[.pointer (some xl)]]) (w:=w) Tryz.func109 rfl Tryz.ntmps109 rfl (Ze (Zc 1 [] [(4,.i 0)] {} (Zz (Ze (Zc 3 [] [(7,.i (s.length:Int)),(8,.i 0)] {} (Zb rfl ?_))))))
 obtain⟨R1,hR⟩:∃ R,R=Kp c0 s 0:=⟨_,rfl⟩
 refine TC.cut (S:=Unit) (fun (_:Unit)=>[]) (fun (_:Unit)=>[]) (fun (_:Unit)=>R1=.inl ()) ?_ ?_
 ·refine TC.block (XB (X:=Nat) (fun k=>[(0,.slice A_s s.length c_s),(1,.func (.func 68) #[] #[.pointer (some xl)]),(7,.i (s.length:Int)),(8,.i (k:Int))]) (fun k=>[]) (fun k=>s.length-k) (fun k=>k≤s.length∧R1=Kp c0 (s.drop k) k) ?_ 0 ⟨aN _,hR⟩ Kr (sb 0))
  rintro k ⟨hk,hI⟩
  refine Ze (Zc 1 [] [(9,.b (decide ((k:Int)<(s.length:Int))))] {} (Zz (TC.cond (decide ((k:Int)<(s.length:Int))) rfl Kr (fun h1=>?_) (fun h1=>?_))))
  ·have hlt:=ltN h1
   obtain⟨x,hx⟩:=elN hlt
   have hd:=drop_at hx
   refine Yg (TC.seq (TC.block (Ze (Zc 2 [] [(5,.i (k:Int))] {} (Zv (Zc 3 [] [(11,.func (.func 68) #[] #[.pointer (some xl)]),(12,.slice A_s s.length c_s),(13,.i (k:Int))] {} (TL.v (sV (Instr.indexAt 29 (.slice A_s s.length c_s) (.i (k:Int)))) 14 (.pointer (some (Ix A_s (k*6)))) (fun w hM=>Zy (h_s.sat hM) (by simp) Kr sd sd) {} (TL.v (sV (Instr.loadAt 34 (.pointer (some (Ix A_s (k*6)))))) 15 (Zl.v x) (fun w hM=>Yd (n:=6) (off:=0) (i:=k) (Zl.v x) (h_s.sat hM) (ZR hx) Kr Kr Kr) {} (TL.c 16 (Vd x c0) (fun r1=>.b r1) (fun w hM=>HC x xl c0 w (w5.sat hM)) {} (fun r1 hr1=>Zb rfl (TC.cond r1 rfl Kr (fun h2=>?_) (fun h2=>?_))))))))))))
   ·refine Ze (Zc 2 [] [(4,.i (k:Int))] {} (Zb rfl (TC.ret (ZY (Zq (Zq (ZY (Zq (Zq ?_)))))))))
    exact TE.ret [] (.i (k:Int)) {} (by unfold Ky;refine eS (fun z=>(.i z:Value)) ?_;subst hr1;exact Q4 (hR.symm.trans (hI.trans (by rw[hd];exact Zk h2 (rfl)))) rfl)
   ·exact TC.skip (Yr (Z4 (TC.region (Zc 2 [] [(8,.i (w64 ((k:Int)+1)))] {} (Z2 rfl (TE.rw 8 (.i (w64 ((k:Int)+1))) (.i ((k+1:Nat):Int)) Kr (ZT k (by omega)) (Z7 (x:=k) (k+1) ⟨by omega,hI.trans (by subst hr1;rw[hd];exact Zd h2 (rfl))⟩ (mN hlt) Kr (sb 0))))))))
  ·have hd:=QE h1
   refine TC.exit (Yc (Yc (Z1 ?_)))
   exact TE.cut () (hI.trans (by rw[hd];exact rfl)) Kr (sb 0)
 ·intro _ hJ
  exact YZ (Zc 1 [] [(4,.i (-1))] {} (Zb rfl (TC.ret (TE.ret [] (.i (-1)) {} (by unfold Ky;refine eS (fun z=>(.i z:Value)) ?_;exact Q2 (hR.symm.trans hJ) (rfl))))))
def Kq (s:List Zl) (c0:Zl):Bool :=
 let r1:=Ky s c0
 decide (r1≥0)
theorem Wg (A_s:Option Addr) (c_s:Nat) (s:List Zl) (xl:Addr) (c0:Zl) (w:World) (h_s:Rd w 6 A_s (s.map Zl.c)) (py:s.length≤c_s) (w5:Rd w 6 (some xl) [Zl.c c0]):Calls Tryz.prog 67 #[.slice A_s s.length c_s,.func (.func 68) #[] #[.pointer (some xl)]] w (Ret w (.bool (Kq s c0))):=by
 have s_s:=h_s.short;rw[aF] at s_s
 exact Zo (vs:=[.slice A_s s.length c_s,.func (.func 68) #[] #[.pointer (some xl)]]) (w:=w) Tryz.func67 rfl Tryz.ntmps67 rfl (Ze (Zc 1 [] [(4,.b false)] {} (Zv (Zc 2 [] [(5,.slice A_s s.length c_s),(6,.func (.func 68) #[] #[.pointer (some xl)])] {} (TL.c 7 (Ky s c0) (fun r1=>.i r1) (fun w hM=>HD A_s c_s s xl c0 w (h_s.sat hM) py (w5.sat hM)) {} (fun r1 hr1=>Zc 5 [] [(4,.b (decide (r1≥0)))] {} (Zb rfl (TC.ret (TE.ret [] (.b (decide (r1≥0))) {} (by unfold Kq;refine eS (fun z=>(.b z:Value)) ?_;subst hr1;exact rfl))))))))))
def KI (l:List Zl):List Zl→Nat→((Unit) ⊕ (Int))
 | [],_=>.inl ()
 | x::xs,k=>let r1:=Y7 x
  cond (r1 != 0) (
   .inr r1) (
   let r2:=Kq (l.take k) x
   cond r2 (
    .inr 7) (
    KI l xs (k+1)))
def QH (l:List Zl):Int :=
 cond (decide ((l.length:Int)>4)) (
  2) (
  Sum.elim (fun _ =>
   0) (fun r=>r) (KI l l 0))
set_option maxHeartbeats 4000000 in
theorem Dh (A_l:Option Addr) (c_l:Nat) (l:List Zl) (w:World) (h_l:Rd w 6 A_l (l.map Zl.c)) (ui:l.length≤c_l):Calls Tryz.prog 32 #[.slice A_l l.length c_l] w (Ret w (.int .i64 (QH l))):=by
 have s_l:=h_l.short;rw[aF] at s_l
 refine Zo (vs:=[.slice A_l l.length c_l]) (w:=w) Tryz.func32 rfl Tryz.ntmps32 rfl (Ze (Zc 1 [] [(2,.i 0)] {} (Zz (Ze (Zc 3 [] [(8,.b (decide ((l.length:Int)>4)))] {} (Zb rfl (TC.cond (decide ((l.length:Int)>4)) rfl Kr (fun h1=>?_) (fun h1=>?_))))))))
 ·exact Ze (Zc 1 [] [(2,.i 2)] {} (Zb rfl (TC.ret (Zq (TE.ret [] (.i 2) {} (by unfold QH;refine eS (fun z=>(.i z:Value)) ?_;exact Zk h1 (rfl)))))))
 ·have j4:=(Zt h1)
  refine Yg (TC.seq (Ze (Zc 3 [] [(9,.slice A_l l.length c_l),(10,.i (l.length:Int)),(11,.i 0)] {} (Zb rfl ?_))))
  obtain⟨R1,hR⟩:∃ R,R=KI l l 0:=⟨_,rfl⟩
  refine TC.cut (S:=Unit) (fun (_:Unit)=>[]) (fun (_:Unit)=>[]) (fun (_:Unit)=>R1=.inl ()) ?_ ?_
  ·refine TC.block (XB (X:=Nat) (fun k=>[(0,.slice A_l l.length c_l),(9,.slice A_l l.length c_l),(10,.i (l.length:Int)),(11,.i (k:Int))]) (fun k=>[]) (fun k=>l.length-k) (fun k=>k≤l.length∧R1=KI l (l.drop k) k) ?_ 0 ⟨aN _,hR⟩ Kr (sb 0))
   rintro k ⟨hk,hI⟩
   refine Ze (Zc 1 [] [(12,.b (decide ((k:Int)<(l.length:Int))))] {} (Zz (TC.cond (decide ((k:Int)<(l.length:Int))) rfl Kr (fun h2=>?_) (fun h2=>?_))))
   ·have hlt:=ltN h2
    obtain⟨x,hx⟩:=elN hlt
    have hd:=drop_at hx
    refine Yg (TC.seq (TC.block (Ze (Zc 1 [] [(13,.i (k:Int))] {} (TL.v (sV (Instr.indexAt 29 (.slice A_l l.length c_l) (.i (k:Int)))) 14 (.pointer (some (Ix A_l (k*6)))) (fun w hM=>Zy (h_l.sat hM) (by simp) Kr sd sd) {} (TL.v (sV (Instr.loadAt 34 (.pointer (some (Ix A_l (k*6)))))) 15 (Zl.v x) (fun w hM=>Yd (n:=6) (off:=0) (i:=k) (Zl.v x) (h_l.sat hM) (ZR hx) Kr Kr Kr) {} (ZH 4 (fun b1=>.p0 b1) (fun b1=>Bk b1 (Zl.c Zl.zero) 34) (fun b1=>{}) (fun b1=>Zc 5 [] [(3,.i (k:Int))] {} (Ym 0 (Bk b1 (Zl.c x) 34) (fun _=>{}) (Zz (Ze (Zc 1 [0] [(16,Zl.v x)] {} (TL.c 17 (Y7 x) (fun r1=>.i r1) (fun w _=>V3 x w) {} (fun r1 hr1=>Zc 3 [] [(5,.i r1)] {} (Zv (Zc 2 [] [(19,.b (r1 != 0))] {} (Zb rfl (TC.cond (r1 != 0) rfl Kr (fun h3=>?_) (fun h3=>?_)))))))))))))))))))
    ·refine Ze (Zc 2 [] [(2,.i r1)] {} (Zb rfl (TC.ret (Zq (ZY (Zq (Zq (ZY (Zq (Zq ?_))))))))))
     exact TE.ret [] (.i r1) {} (by unfold QH;refine eS (fun z=>(.i z:Value)) ?_;subst hr1;exact Zd h1 (Q4 (hR.symm.trans (hI.trans (by rw[hd];exact Zk h3 (rfl)))) rfl))
    ·have wm:=(Jb h3)
     refine ZI (Zc 2 [] [(21,.slice A_l l.length c_l),(22,.i (k:Int))] {} ?_)
     obtain⟨A1,hA1⟩:∃ A0_,A0_=(if c_l=0 then A_l else A_l.map (fun a=>a.add (0*6))):=⟨_,rfl⟩
     have hR1:Rd w 6 A1 ((l.take k).map Zl.c):=by rw[hA1];exact h_l.cutMap 0 _ ui
     have hC1:(l.take k).length≤(c_l-0):=by simp only[bG];omega
     have lz:=hR1.short;rw[aF] at lz
     refine TL.v (sV (Instr.sliceAt 29 (.slice A_l l.length c_l) none (some (.i (k:Int))) none)) 23 (.slice A1 ((l.take k).length) (c_l-0)) (fun w hM=>(VU 0 k Kr (.inl ⟨rfl,rfl⟩) (.inr ⟨_,_,rfl,sd,rfl⟩) sd sd).trans (by rw[hA1];congr 3;first|(simp only[bG] <;> omega)|(simp only[bG] at * <;> omega))) {} (Zc 4 [] [(24,.func (.func 68) #[] #[.p0 b1])] {} (TL.c 25 (Kq (l.take k) x) (fun r2=>.b r2) (fun w hM=>Wg A1 (c_l-0) (l.take k) ⟨b1,0,none⟩ x w (hR1.sat hM) hC1 (Rd.lit hM 0 _ rfl Kr Kr Kr)) {} (fun r2 hr2=>Zb rfl (TC.cond r2 rfl Kr (fun h4=>?_) (fun h4=>?_)))))
     ·refine Ze (Zc 1 [] [(2,.i 7)] {} (Zb rfl (TC.ret (ZY (Zq (Zq (ZY (Zq (Zq ?_)))))))))
      exact TE.ret [] (.i 7) {} (by unfold QH;refine eS (fun z=>(.i z:Value)) ?_;subst hr1 hr2;exact Zd h1 (Q4 (hR.symm.trans (hI.trans (by rw[hd];exact Zd h3 (Zk h4 (rfl))))) rfl))
     ·exact TC.skip (Yr (Z4 (TC.region (Zc 2 [] [(11,.i (w64 ((k:Int)+1)))] {} (Z2 rfl (TE.rw 11 (.i (w64 ((k:Int)+1))) (.i ((k+1:Nat):Int)) Kr (ZT k (by omega)) (Z7 (x:=k) (k+1) ⟨by omega,hI.trans (by subst hr1 hr2;rw[hd];exact Zd h3 (Zd h4 (rfl)))⟩ (mN hlt) Kr (sb 0))))))))
   ·have hd:=QE h2
    refine TC.exit (Yc (Yc (Z1 ?_)))
    exact TE.cut () (hI.trans (by rw[hd];exact rfl)) Kr (sb 0)
  ·intro _ hJ
   exact YZ (Zc 1 [] [(2,.i 0)] {} (Zb rfl (TC.ret (TE.ret [] (.i 0) {} (by unfold QH;refine eS (fun z=>(.i z:Value)) ?_;exact Zd h1 (Q2 (hR.symm.trans hJ) (rfl)))))))
def Qw:List Zr→Nat→((Unit) ⊕ (Int))
 | [],_=>.inl ()
 | x::xs,k=>let r1:=Yz x
  cond (r1 != 0) (
   .inr r1) (
   Qw xs (k+1))
def X1 (l:List Zr):Int :=
 cond (decide ((l.length:Int)>1024)) (
  2) (
  Sum.elim (fun _ =>
   0) (fun r=>r) (Qw l 0))
theorem Wh (A_l:Option Addr) (c_l:Nat) (l:List Zr) (w:World) (h_l:Rd w 6 A_l (l.map Zr.c)) (_hc_l:l.length≤c_l):Calls Tryz.prog 33 #[.slice A_l l.length c_l] w (Ret w (.int .i64 (X1 l))):=by
 have s_l:=h_l.short;rw[aF] at s_l
 refine Zo (vs:=[.slice A_l l.length c_l]) (w:=w) Tryz.func33 rfl Tryz.ntmps33 rfl (Ze (Zc 1 [] [(2,.i 0)] {} (Zz (Ze (Zc 3 [] [(8,.b (decide ((l.length:Int)>1024)))] {} (Zb rfl (TC.cond (decide ((l.length:Int)>1024)) rfl Kr (fun h1=>?_) (fun h1=>?_))))))))
 ·exact Ze (Zc 1 [] [(2,.i 2)] {} (Zb rfl (TC.ret (Zq (TE.ret [] (.i 2) {} (by unfold X1;refine eS (fun z=>(.i z:Value)) ?_;exact Zk h1 (rfl)))))))
 ·have j4:=(Zt h1)
  refine Yg (TC.seq (Ze (Zc 3 [] [(9,.slice A_l l.length c_l),(10,.i (l.length:Int)),(11,.i 0)] {} (Zb rfl ?_))))
  obtain⟨R1,hR⟩:∃ R,R=Qw l 0:=⟨_,rfl⟩
  refine TC.cut (S:=Unit) (fun (_:Unit)=>[]) (fun (_:Unit)=>[]) (fun (_:Unit)=>R1=.inl ()) ?_ ?_
  ·refine TC.block (XB (X:=Nat) (fun k=>[(9,.slice A_l l.length c_l),(10,.i (l.length:Int)),(11,.i (k:Int))]) (fun k=>[]) (fun k=>l.length-k) (fun k=>k≤l.length∧R1=Qw (l.drop k) k) ?_ 0 ⟨aN _,hR⟩ Kr (sb 0))
   rintro k ⟨hk,hI⟩
   refine Ze (Zc 1 [] [(12,.b (decide ((k:Int)<(l.length:Int))))] {} (Zz (TC.cond (decide ((k:Int)<(l.length:Int))) rfl Kr (fun h2=>?_) (fun h2=>?_))))
   ·have hlt:=ltN h2
    obtain⟨x,hx⟩:=elN hlt
    have hd:=drop_at hx
    refine Yg (TC.seq (TC.block (Ze (TL.v (sV (Instr.indexAt 28 (.slice A_l l.length c_l) (.i (k:Int)))) 13 (.pointer (some (Ix A_l (k*6)))) (fun w hM=>Zy (h_l.sat hM) (by simp) Kr sd sd) {} (TL.v (sV (Instr.loadAt 40 (.pointer (some (Ix A_l (k*6)))))) 14 (Zr.v x) (fun w hM=>Yd (n:=6) (off:=0) (i:=k) (Zr.v x) (h_l.sat hM) (ZR hx) Kr Kr Kr) {} (ZH 4 (fun b1=>.p0 b1) (fun b1=>Bk b1 (Zr.c Zr.zero) 40) (fun b1=>{}) (fun b1=>Ym 0 (Bk b1 (Zr.c x) 40) (fun _=>{}) (Zv (Zc 1 [0] [(15,Zr.v x)] {} (TL.c 16 (Yz x) (fun r1=>.i r1) (fun w _=>U4 x w) {} (fun r1 hr1=>Zc 3 [] [(5,.i r1)] {} (Zv (Zc 2 [] [(18,.b (r1 != 0))] {} (Zb rfl (TC.cond (r1 != 0) rfl Kr (fun h3=>?_) (fun h3=>?_))))))))))))))))
    ·refine Ze (Zc 2 [] [(2,.i r1)] {} (Zb rfl (TC.ret (ZY (Zq (Zq (ZY (Zq (Zq ?_)))))))))
     exact TE.ret [] (.i r1) {} (by unfold X1;refine eS (fun z=>(.i z:Value)) ?_;subst hr1;exact Zd h1 (Q4 (hR.symm.trans (hI.trans (by rw[hd];exact Zk h3 (rfl)))) rfl))
    ·have wm:=(Jb h3)
     exact TC.skip (Yr (Z4 (TC.region (Zc 2 [] [(11,.i (w64 ((k:Int)+1)))] {} (Z2 rfl (TE.rw 11 (.i (w64 ((k:Int)+1))) (.i ((k+1:Nat):Int)) Kr (ZT k (by omega)) (Z7 (x:=k) (k+1) ⟨by omega,hI.trans (by subst hr1;rw[hd];exact Zd h3 (rfl))⟩ (mN hlt) Kr (sb 0))))))))
   ·have hd:=QE h2
    refine TC.exit (Yc (Yc (Z1 ?_)))
    exact TE.cut () (hI.trans (by rw[hd];exact rfl)) Kr (sb 0)
  ·intro _ hJ
   exact YZ (Zc 1 [] [(2,.i 0)] {} (Zb rfl (TC.ret (TE.ret [] (.i 0) {} (by unfold X1;refine eS (fun z=>(.i z:Value)) ?_;exact Zd h1 (Q2 (hR.symm.trans hJ) (rfl)))))))
def Xc (x:Zr):List Zl→Nat→(List Zm)→(List Zm)
 | [],_,x6=>x6
 | x_2::xs,k_2,x6=>cond (x_2.ID != x.Radar) (
   Xc x xs (k_2+1) x6) (
   let r3:=ZU x_2 x
   cond (r3.2==0) (
    Xc x xs (k_2+1) (x6++([r3.1]))) (
    Xc x xs (k_2+1) x6))
def QW (l:List Zl):List Zr→Nat→(List Zm)→(List Zm)
 | [],_,out=>out
 | x::xs,k,out=>Xq (Xc x l 0 out) (fun wg =>
   QW l xs (k+1) wg)
def Xr (l:List Zl) (plots:List Zr):List Zm×Int :=
 let r1:=QH l
 cond (r1 != 0) (
  ([],r1)) (
  let r2:=X1 plots
  cond (r2 != 0) (
   ([],r2)) (
   Xq (QW l plots 0 ([]:List Zm)) (fun ql =>
    (ql,0))))
theorem JM {l:List Zl} {r:Int} (hr:QH l=r) (h:(r != 0)=false):l.length≤4:=by
 have h:r=0:=by simpa using h
 rw[h] at hr
 unfold QH at hr
 cases h1:decide ((l.length:Int)>4) with
 | true=>rw[h1] at hr;cases hr
 | false=>have:=of_decide_eq_false h1;omega
theorem Jn {l:List Zr} {r:Int} (hr:X1 l=r) (h:(r != 0)=false):l.length≤1024:=by
 have h:r=0:=by simpa using h
 rw[h] at hr
 unfold X1 at hr
 cases h1:decide ((l.length:Int)>1024) with
 | true=>rw[h1] at hr;cases hr
 | false=>have:=of_decide_eq_false h1;omega
set_option maxHeartbeats 4000000 in
theorem G5 (A_l:Option Addr) (c_l:Nat) (l:List Zl) (A_plots:Option Addr) (j5:Nat) (plots:List Zr) (w:World) (h_l:Rd w 6 A_l (l.map Zl.c)) (ui:l.length≤c_l) (yn:Rd w 6 A_plots (plots.map Zr.c)) (fj:plots.length≤j5) (hT:W4 w):Calls Tryz.prog 12 #[.slice A_l l.length c_l,.slice A_plots plots.length j5] w (JD (Γ:=(Option Addr×Nat)) (cx w) (fun g=>.tuple #[.slice g.1 ((Xr l plots).1.length) g.2,.int .i64 ((Xr l plots).2)]) (fun g=>[.inr (Own g.1 g.2 46 6 (((Xr l plots).1).map Zm.c))])):=by
 have s_l:=h_l.short;rw[aF] at s_l
 have dm:=yn.short;rw[aF] at dm
 refine Zo (vs:=[.slice A_l l.length c_l,.slice A_plots plots.length j5]) (w:=w) Tryz.func12 rfl Tryz.ntmps12 rfl (Ze (Zc 2 [] [(4,.slice none 0 0),(5,.i 0)] {} (Zz (Ze (Zc 1 [] [(15,.slice A_l l.length c_l)] {} (TL.c 16 (QH l) (fun r1=>.i r1) (fun w hM=>Dh A_l c_l l w (h_l.sat hM) ui) {} (fun r1 hr1=>Zc 3 [] [(6,.i r1)] {} (Zv (Zc 2 [] [(18,.b (r1 != 0))] {} (Zb rfl (TC.cond (r1 != 0) rfl Kr (fun h1=>?_) (fun h1=>?_))))))))))))
 ·refine Ze (Zc 3 [] [(4,.slice none 0 0),(5,.i r1)] {} (Zb rfl (TC.ret (Zq ?_))))
  have e:Xr l plots=([],r1):=by subst hr1;unfold Xr;exact Zk h1 (rfl)
  refine Yp [Ow none 0 46 6 (([]:List Zm).map Zm.c)] (fun _ hM=>hM.emptyrow none 46 6) ?_
  rw[e]
  exact ZN (.inl rfl) (none,0) [] (.tuple #[.slice none 0 0,.i r1]) {} rfl (fun _ hM=>hM.sub (sb 1))
 ·have j4:=(Jb h1)
  refine Yg (TC.seq (Ze (Zc 1 [] [(20,.slice A_plots plots.length j5)] {} (TL.c 21 (X1 plots) (fun r2=>.i r2) (fun w hM=>Wh A_plots j5 plots w (yn.sat hM) fj) {} (fun r2 hr2=>Zc 3 [] [(7,.i r2)] {} (Zv (Zc 2 [] [(23,.b (r2 != 0))] {} (Zb rfl (TC.cond (r2 != 0) rfl Kr (fun h2=>?_) (fun h2=>?_))))))))))
  ·refine Ze (Zc 3 [] [(4,.slice none 0 0),(5,.i r2)] {} (Zb rfl (TC.ret (Zq ?_))))
   have e:Xr l plots=([],r2):=by subst hr1 hr2;unfold Xr;exact Zd h1 (Zk h2 (rfl))
   refine Yp [Ow none 0 46 6 (([]:List Zm).map Zm.c)] (fun _ hM=>hM.emptyrow none 46 6) ?_
   rw[e]
   exact ZN (.inl rfl) (none,0) [] (.tuple #[.slice none 0 0,.i r2]) {} rfl (fun _ hM=>hM.sub (sb 1))
  ·have vr:=(Jb h2)
   refine ZI (Zc 1 [] [(8,.slice none 0 0)] {} (Zz (Ze (Zc 3 [] [(25,.slice A_plots plots.length j5),(26,.i (plots.length:Int)),(27,.i 0)] {} (Zb rfl (QS [Ow none 0 46 6 (([]:List Zm).map Zm.c)] (fun _ hM=>hM.emptyrow none 46 6) ?_))))))
   obtain⟨R4,hR⟩:∃ R,R=QW l plots 0 ([]:List Zm):=⟨_,rfl⟩
   refine TC.cut (S:=(List Zm)×(Option Addr)×Nat) (fun (ql,A_out_2,qk)=>[(8,.slice A_out_2 ql.length qk)]) (fun (ql,A_out_2,qk)=>[Ow A_out_2 qk 46 6 (ql.map Zm.c)]) (fun (ql,A_out_2,qk)=>R4=ql∧ql.length≤4*plots.length) ?_ ?_
   ·refine TC.block (XB (X:=Nat×(List Zm)×(Option Addr)×Nat) (fun (k,out,A_out,qg)=>[(0,.slice A_l l.length c_l),(8,.slice A_out out.length qg),(25,.slice A_plots plots.length j5),(26,.i (plots.length:Int)),(27,.i (k:Int))]) (fun (k,out,A_out,qg)=>[Ow A_out qg 46 6 (out.map Zm.c)]) (fun (k,out,A_out,qg)=>plots.length-k) (fun (k,out,A_out,qg)=>k≤plots.length∧R4=QW l (plots.drop k) k out∧out.length≤4*k) ?_ (0,([]:List Zm),none,0) ⟨aN _,hR,sz⟩ Kr (sb 1))
    rintro⟨k,out,A_out,qg⟩ ⟨hk,hI,wo⟩
    refine Ze (Zc 1 [] [(28,.b (decide ((k:Int)<(plots.length:Int))))] {} (Zz (TC.cond (decide ((k:Int)<(plots.length:Int))) rfl Kr (fun h3=>?_) (fun h3=>?_))))
    ·have hlt:=ltN h3
     obtain⟨x,hx⟩:=elN hlt
     have hd:=drop_at hx
     refine Yg (TC.seq (TC.block (Ze (TL.v (sV (Instr.indexAt 28 (.slice A_plots plots.length j5) (.i (k:Int)))) 29 (.pointer (some (Ix A_plots (k*6)))) (fun w hM=>Zy (yn.sat hM) (by simp) Kr (by (try have kl_:=JM hr1 h1);(try have kp_:=Jn hr2 h2);exact sd) (by (try have kl_:=JM hr1 h1);(try have kp_:=Jn hr2 h2);exact sd)) {} (TL.v (sV (Instr.loadAt 40 (.pointer (some (Ix A_plots (k*6)))))) 30 (Zr.v x) (fun w hM=>Yd (n:=6) (off:=0) (i:=k) (Zr.v x) (yn.sat hM) (ZR hx) Kr Kr Kr) {} (ZH 10 (fun b1=>.p0 b1) (fun b1=>Bk b1 (Zr.c Zr.zero) 40) (fun b1=>{}) (fun b1=>Ym 0 (Bk b1 (Zr.c x) 40) (fun _=>{}) (Zv (Zc 3 [] [(31,.slice A_l l.length c_l),(32,.i (l.length:Int)),(33,.i 0)] {} (Zb rfl ?_))))))))))
     obtain⟨R5,x9⟩:∃ R,R=Xc x l 0 out:=⟨_,rfl⟩
     refine TC.cut (S:=(List Zm)×(Option Addr)×Nat) (fun (wg,A_out_4,k8)=>[(0,.slice A_l l.length c_l),(8,.slice A_out_4 wg.length k8),(25,.slice A_plots plots.length j5),(26,.i (plots.length:Int)),(27,.i (k:Int))]) (fun (wg,A_out_4,k8)=>[Ow A_out_4 k8 46 6 (wg.map Zm.c)]) (fun (wg,A_out_4,k8)=>R5=wg∧wg.length≤out.length+l.length) ?_ ?_
     ·refine TC.block (XB (X:=Nat×(List Zm)×(Option Addr)×Nat) (fun (k_2,x6,A_out_3,jd)=>[(0,.slice A_l l.length c_l),(8,.slice A_out_3 x6.length jd),(10,.p0 b1),(25,.slice A_plots plots.length j5),(26,.i (plots.length:Int)),(27,.i (k:Int)),(31,.slice A_l l.length c_l),(32,.i (l.length:Int)),(33,.i (k_2:Int))]) (fun (k_2,x6,A_out_3,jd)=>[Bk b1 (Zr.c x) 40,Ow A_out_3 jd 46 6 (x6.map Zm.c)]) (fun (k_2,x6,A_out_3,jd)=>l.length-k_2) (fun (k_2,x6,A_out_3,jd)=>k_2≤l.length∧R5=Xc x (l.drop k_2) k_2 x6∧x6.length≤out.length+k_2) ?_ (0,out,A_out,qg) ⟨aN _,x9,sz⟩ Kr (sb 3))
      rintro⟨k_2,x6,A_out_3,jd⟩ ⟨y9,xg,l0⟩
      refine Ze (Zc 1 [] [(34,.b (decide ((k_2:Int)<(l.length:Int))))] {} (Zz (TC.cond (decide ((k_2:Int)<(l.length:Int))) rfl Kr (fun h4=>?_) (fun h4=>?_))))
      ·have zp:=ltN h4
       obtain⟨x_2,xw⟩:=elN zp
       have zr:=drop_at xw
       refine Yg (TC.seq (TC.block (Ze (TL.v (sV (Instr.indexAt 29 (.slice A_l l.length c_l) (.i (k_2:Int)))) 35 (.pointer (some (Ix A_l (k_2*6)))) (fun w hM=>Zy (h_l.sat hM) (by simp) Kr (by (try have kl_:=JM hr1 h1);(try have kp_:=Jn hr2 h2);exact sd) (by (try have kl_:=JM hr1 h1);(try have kp_:=Jn hr2 h2);exact sd)) {} (TL.v (sV (Instr.loadAt 34 (.pointer (some (Ix A_l (k_2*6)))))) 36 (Zl.v x_2) (fun w hM=>Yd (n:=6) (off:=0) (i:=k_2) (Zl.v x_2) (h_l.sat hM) (ZR xw) Kr Kr Kr) {} (ZH 12 (fun b2=>.p0 b2) (fun b2=>Bk b2 (Zl.c Zl.zero) 34) (fun b2=>{}) (fun b2=>Ym 0 (Bk b2 (Zl.c x_2) 34) (fun _=>{}) (Zz (Ze (Zc 5 [0,1] [(41,.b (x_2.ID != x.Radar))] {} (Zb rfl (TC.cond (x_2.ID != x.Radar) rfl Kr (fun h5=>?_) (fun h5=>?_)))))))))))))
       ·have yr:=(C6 h5)
        refine TC.exit (Yc (Z1 ?_))
        exact Z4 (TC.region (Zc 2 [] [(33,.i (w64 ((k_2:Int)+1)))] {} (Z2 rfl (TE.rw 33 (.i (w64 ((k_2:Int)+1))) (.i ((k_2+1:Nat):Int)) Kr (ZT k_2 (by (try have kl_:=JM hr1 h1);(try have kp_:=Jn hr2 h2);omega)) (Z7 (x:=(k_2,x6,A_out_3,jd)) (k_2+1,x6,A_out_3,jd) ⟨by omega,xg.trans (by subst hr1 hr2;rw[zr];exact Zk h5 (rfl)),(by (try have kl_:=JM hr1 h1);(try have kp_:=Jn hr2 h2);exact sl)⟩ (mN zp) Kr (sb 6))))))
       ·have yr:=(Jb h5)
        refine ZI (Zc 2 [0,1] [(43,Zl.v x_2),(44,Zr.v x)] {} (TL.c 45 (ZU x_2 x) (fun r3=>.tuple #[Zm.v r3.1,.i r3.2]) (fun w hM=>N5 x_2 x w (hT.sat hM)) {} (fun r3 hr3=>Zc 6 [] [(46,Zm.v r3.1),(47,.i r3.2)] {} (ZH 13 (fun b3=>.p0 b3) (fun b3=>Bk b3 (Zm.c Zm.zero) 46) (fun b3=>{}) (fun b3=>Ym 0 (Bk b3 (Zm.c r3.1) 46) (fun _=>{}) (Zc 9 [] [(14,.i r3.2)] {} (Zv (Zc 2 [] [(49,.b (r3.2==0))] {} (Zb rfl (TC.cond (r3.2==0) rfl Kr (fun h6=>?_) (fun h6=>?_)))))))))))
        ·have yv:=(Xf h6)
         refine TC.region (Zc 2 [0] [(50,.slice A_out_3 x6.length jd),(51,Zm.v r3.1)] {} (ZH 52 (fun b4=>.slice (Pa b4) 1 1) (fun b4=>Bk b4 (Zm.c r3.1) 46) (fun b4=>{}) (fun b4=>TL.os (Γ:=AN) (sV (Builtin.append_ #[52,52] 52 #[.slice A_out_3 x6.length jd,.slice (Pa b4) 1 1])) 53 (fun g=>.slice g.1 (x6++([r3.1])).length g.2) 4 (fun g=>Ow g.1 g.2 46 6 ((x6++([r3.1])).map Zm.c)) (Jc (bytes:=48) 52 4 ([r3.1]) Kr rfl rfl Zm.one rfl (fun w hM=>(Rd.lit hM 0 _ rfl Kr Kr Kr)) rfl (by (try have kl_:=JM hr1 h1);(try have kp_:=Jn hr2 h2);exact sa)) {} ?_)))
         rintro⟨A,c⟩
         exact Zc 5 [] [(8,.slice A ((x6++([r3.1])).length) c)] {} (Z2 rfl (Yr (Z4 (TC.region (Zc 2 [] [(33,.i (w64 ((k_2:Int)+1)))] {} (Z2 rfl (TE.rw 33 (.i (w64 ((k_2:Int)+1))) (.i ((k_2+1:Nat):Int)) Kr (ZT k_2 (by (try have kl_:=JM hr1 h1);(try have kp_:=Jn hr2 h2);omega)) (Z7 (x:=(k_2,x6,A_out_3,jd)) (k_2+1,(x6++([r3.1])),A,c) ⟨by omega,xg.trans (by subst hr1 hr2 hr3;rw[zr];exact Zd h5 (Zk h6 (rfl))),(by (try have kl_:=JM hr1 h1);(try have kp_:=Jn hr2 h2);exact sl)⟩ (mN zp) Kr (sb 24)))))))))
        ·have yv:=(Yh h6)
         exact TC.skip (Yr (Z4 (TC.region (Zc 2 [] [(33,.i (w64 ((k_2:Int)+1)))] {} (Z2 rfl (TE.rw 33 (.i (w64 ((k_2:Int)+1))) (.i ((k_2+1:Nat):Int)) Kr (ZT k_2 (by (try have kl_:=JM hr1 h1);(try have kp_:=Jn hr2 h2);omega)) (Z7 (x:=(k_2,x6,A_out_3,jd)) (k_2+1,x6,A_out_3,jd) ⟨by omega,xg.trans (by subst hr1 hr2 hr3;rw[zr];exact Zd h5 (Zd h6 (rfl))),(by (try have kl_:=JM hr1 h1);(try have kp_:=Jn hr2 h2);exact sl)⟩ (mN zp) Kr (sb 12))))))))
      ·have zr:=QE h4
       refine TC.exit (Yc (Yc (Z1 ?_)))
       exact TE.cut (x6,A_out_3,jd) (⟨xg.trans (by subst hr1 hr2;rw[zr];exact rfl),(by (try have kl_:=JM hr1 h1);(try have kp_:=Jn hr2 h2);exact sl)⟩) Kr (sb 2)
     ·rintro⟨wg,A_out_4,k8⟩ ⟨va,l4⟩
      exact Yr (Z4 (TC.region (Zc 2 [] [(27,.i (w64 ((k:Int)+1)))] {} (Z2 rfl (TE.rw 27 (.i (w64 ((k:Int)+1))) (.i ((k+1:Nat):Int)) Kr (ZT k (by (try have kl_:=JM hr1 h1);(try have kp_:=Jn hr2 h2);omega)) (Z7 (x:=(k,out,A_out,qg)) (k+1,wg,A_out_4,k8) ⟨by omega,hI.trans (by subst hr1 hr2;rw[hd];exact Y5 (x9.symm.trans va) (rfl)),(by (try have kl_:=JM hr1 h1);(try have kp_:=Jn hr2 h2);exact sl)⟩ (mN hlt) Kr (sb 1)))))))
    ·have hd:=QE h3
     refine TC.exit (Yc (Yc (Z1 ?_)))
     exact TE.cut (out,A_out,qg) (⟨hI.trans (by subst hr1 hr2;rw[hd];exact rfl),(by (try have kl_:=JM hr1 h1);(try have kp_:=Jn hr2 h2);exact sl)⟩) Kr (sb 1)
   ·rintro⟨ql,A_out_2,qk⟩ ⟨hJ,vu⟩
    refine YZ (Zc 3 [] [(4,.slice A_out_2 ql.length qk),(5,.i 0)] {} (Zb rfl (TC.ret ?_)))
    have e:Xr l plots=(ql,0):=by subst hr1 hr2;unfold Xr;exact Zd h1 (Zd h2 (Y5 (hR.symm.trans hJ) (rfl)))
    rw[e]
    exact ZN (.inl rfl) (A_out_2,qk) [] (.tuple #[.slice A_out_2 ql.length qk,.i 0]) {} rfl (fun _ hM=>hM.sub (sb 1))
end Go.Sky
end
section
namespace Go.Sky
open Go Go.Eng Go.Proofs
def Vu (qd:Int):Bool :=
 (decide (qd<0))||(decide (qd>60000))
theorem Hh (qd:Int) (w:World):Calls Tryz.prog 36 #[.int .i64 qd] w (Ret w (.bool (Vu qd))):=by
 exact Zo (vs:=[.i qd]) (w:=w) Tryz.func36 rfl Tryz.ntmps36 rfl (Ze (Zc 1 [] [(2,.b false)] {} (Zv (Zc 3 [] [(5,.b (decide (qd<0)))] {} (XT 5 (decide (qd<0)) 6 [] [] (fun β=>[(8,.b (β||(decide (qd>60000))))]) Kr {} {} (Zc 7 [] [(2,.b ((decide (qd<0))||(decide (qd>60000))))] {} (Zb rfl (TC.ret (TE.ret [] (.b ((decide (qd<0))||(decide (qd>60000)))) {} (by unfold Vu;refine eS (fun z=>(.b z:Value)) ?_;exact rfl))))))))))
def Vv (a:Int) (b_:Int) (qd:Int):Bool :=
 decide ((LW (w64 (a-b_)) (w64 (b_-a)))≤qd)
theorem HW (a:Int) (b_:Int) (qd:Int) (w:World):Calls Tryz.prog 78 #[.int .i64 a,.int .i64 b_,.int .i64 qd] w (Ret w (.bool (Vv a b_ qd))):=by
 exact Zo (vs:=[.i a,.i b_,.i qd]) (w:=w) Tryz.func78 rfl Tryz.ntmps78 rfl (Ze (Zc 1 [] [(6,.b false)] {} (Zv (Zc 10 [] [(6,.b (decide ((LW (w64 (a-b_)) (w64 (b_-a)))≤qd)))] {} (Zb rfl (TC.ret (TE.ret [] (.b (decide ((LW (w64 (a-b_)) (w64 (b_-a)))≤qd))) {} (by unfold Vv;refine eS (fun z=>(.b z:Value)) ?_;exact rfl))))))))
def K9 (a:Za) (b_:Za) (qd:Int):Bool :=
 cond (a.Track.Time==b_.Track.Time) (
  let r1:=Y3 a.Track.At b_.Track.At (w64 (a.Track.Radius+b_.Track.Radius))
  cond r1 (
   let r2:=Vv a.Track.Height b_.Track.Height qd
   cond r2 (
    cond (a.Track.Code==b_.Track.Code) (
     true) (
     cond (a.Track.Code==(-1)) (
      true) (
      b_.Track.Code==(-1)))) (
    false)) (
   false)) (
  false)
theorem Lm (a:Za) (b_:Za) (qd:Int) (w:World):Calls Tryz.prog 129 #[Za.v a,Za.v b_,.int .i64 qd] w (Ret w (.bool (K9 a b_ qd))):=by
 refine Zo (vs:=[Za.v a,Za.v b_,.i qd]) (w:=w) Tryz.func129 rfl Tryz.ntmps129 rfl (Ze (ZH 3 (fun b1=>.p0 b1) (fun b1=>Bk b1 (Za.c a) 107) (fun b1=>{}) (fun b1=>ZH 4 (fun b2=>.p0 b2) (fun b2=>Bk b2 (Za.c b_) 107) (fun b2=>{}) (fun b2=>Zc 3 [] [(6,.b false)] {} (Zz ?_)))))
 let Mr1_:Mem:=[Bk b2 (Za.c b_) 107,Bk b1 (Za.c a) 107]
 refine Jt (G:=Nat×Nat) (base:=[(2,.i qd),(3,.p0 b1),(4,.p0 b2)]) (vals:=fun γ=>[.p0 b1,Track.v a.Track,.p0 b2,Track.v b_.Track,.p0 γ.1,.p0 γ.2,undef,undef]) (writes:=[4,5,6,7]) (mem:=fun bs γ=>match bs with | [x4_,x5_,x6_,x7_]=>(bif x6_ then [Bk γ.1 (Track.c a.Track) 70] else bif x4_ then [Bk γ.1 (Track.c Track.zero) 70] else [])++((bif x7_ then [Bk γ.2 (Track.c b_.Track) 70] else bif x5_ then [Bk γ.2 (Track.c Track.zero) 70] else [])++(Mr1_))|_=>[]) (0,0) (fun γ=>[(2,.i qd),(7,.p0 γ.1),(8,.p0 γ.2)]) Kr Kr Kr Kr Kr (fun γ=>Kr) (fun _ hM=>hM) (fun γ=>Kr) ?_ ?_
 ·skip
  exact Steps.run (i:=0) 4 [0,1,0,0] Mr1_ Kr Kr (fun S (γ:Nat×Nat) w hM=>by rw[mS4 rfl rfl rfl rfl] at hM;exact hM.sub (Zh (Zh (aA _)))) Kr (fun (γ:Nat×Nat)=>{}) (Steps.op (i:=4) (Γ:=Nat) (fun g (γ:Nat×Nat)=>(g,γ.2)) (fun _=>[]) (fun b (γ:Nat×Nat)=>[Bk b (Track.c Track.zero) 70]) (fun S (γ:Nat×Nat)=>(bif S 7 then [Bk γ.2 (Track.c b_.Track) 70] else bif S 5 then [Bk γ.2 (Track.c Track.zero) 70] else [])++(Mr1_)) [4,6,7] (fun (γ:Nat×Nat)=>sV (Instr.alloc 70 true (.tuple #[]))) (some 7) (fun b (γ:Nat×Nat)=>.p0 b) (fun S (γ:Nat×Nat) hj hd hl=>by rw[mS4 hj rfl (hl 6 Kr) rfl];exact aC _) (fun S (γ:Nat×Nat) g hl=>by rw[mS4 (S:=upS S 4) (a0:=4) (a1:=5) (a2:=6) (a3:=7) rfl rfl (hl 6 Kr) rfl];exact(aC _).symm) (fun (γ:Nat×Nat) M' w hM=>Jd (v:=fun b=>.p0 b) (fun b M=>Kr) M' w hM) (fun (γ:Nat×Nat)=>Kr) (fun (γ:Nat×Nat) g=>Kr) Kr (fun (γ:Nat×Nat) g=>Kr) (Steps.op (i:=5) (Γ:=Nat) (fun g (γ:Nat×Nat)=>(γ.1,g)) (fun _=>[]) (fun b (γ:Nat×Nat)=>[Bk b (Track.c Track.zero) 70]) (fun S (γ:Nat×Nat)=>(bif S 6 then [Bk γ.1 (Track.c a.Track) 70] else bif S 4 then [Bk γ.1 (Track.c Track.zero) 70] else [])++(Mr1_)) [5,6,7] (fun (γ:Nat×Nat)=>sV (Instr.alloc 70 true (.tuple #[]))) (some 8) (fun b (γ:Nat×Nat)=>.p0 b) (fun S (γ:Nat×Nat) hj hd hl=>by rw[mS4 rfl hj rfl (hl 7 Kr)];exact(aB _ (aC _)).trans (ZP _ _ _)) (fun S (γ:Nat×Nat) g hl=>by rw[mS4 (S:=upS S 5) (a0:=4) (a1:=5) (a2:=6) (a3:=7) rfl rfl rfl (hl 7 Kr)];exact((aB _ (aC _)).trans (ZP _ _ _)).symm) (fun (γ:Nat×Nat) M' w hM=>Jd (v:=fun b=>.p0 b) (fun b M=>Kr) M' w hM) (fun (γ:Nat×Nat)=>Kr) (fun (γ:Nat×Nat) g=>Kr) Kr (fun (γ:Nat×Nat) g=>Kr) (Steps.put (i:=6) (fun (γ:Nat×Nat)=>[Bk γ.1 (Track.c Track.zero) 70]) (fun (γ:Nat×Nat)=>[Bk γ.1 (Track.c a.Track) 70]) (fun S (γ:Nat×Nat)=>(bif S 7 then [Bk γ.2 (Track.c b_.Track) 70] else bif S 5 then [Bk γ.2 (Track.c Track.zero) 70] else [])++(Mr1_)) (fun (γ:Nat×Nat)=>sU (Instr.storeAt 70 (.p0 γ.1) (Track.v a.Track))) none (fun S (γ:Nat×Nat) hj hd hl=>by rw[mS4 (hd 4 Kr) rfl hj rfl];exact aC _) (fun S (γ:Nat×Nat) _=>(aC _).symm) (fun (γ:Nat×Nat) M' w hM=>JJ (fun b M=>Kr) (fun b M=>Kr) M' w hM) (fun (γ:Nat×Nat)=>Kr) (fun (γ:Nat×Nat)=>Kr) (Steps.put (i:=7) (fun (γ:Nat×Nat)=>[Bk γ.2 (Track.c Track.zero) 70]) (fun (γ:Nat×Nat)=>[Bk γ.2 (Track.c b_.Track) 70]) (fun S (γ:Nat×Nat)=>(bif S 6 then [Bk γ.1 (Track.c a.Track) 70] else bif S 4 then [Bk γ.1 (Track.c Track.zero) 70] else [])++(Mr1_)) (fun (γ:Nat×Nat)=>sU (Instr.storeAt 70 (.p0 γ.2) (Track.v b_.Track))) none (fun S (γ:Nat×Nat) hj hd hl=>by rw[mS4 rfl (hd 5 Kr) rfl hj];exact(aB _ (aC _)).trans (ZP _ _ _)) (fun S (γ:Nat×Nat) _=>((aB _ (aC _)).trans (ZP _ _ _)).symm) (fun (γ:Nat×Nat) M' w hM=>JJ (fun b M=>Kr) (fun b M=>Kr) M' w hM) (fun (γ:Nat×Nat)=>Kr) (fun (γ:Nat×Nat)=>Kr) (XH Kr)))))
 ·rintro⟨b3,b4⟩
  refine Yp [Bk b3 (Track.c a.Track) 70,Bk b4 (Track.c b_.Track) 70,Bk b2 (Za.c b_) 107,Bk b1 (Za.c a) 107] (fun _ hM=>hM) (YZ (Zc 6 [0,1] [(18,.b (a.Track.Time==b_.Track.Time))] {} (Yo 18 (a.Track.Time==b_.Track.Time) Kr (fun h1=>?_) (fun h1=>?_))))
  ·refine Zc 15 [0,1,0,1] [(20,P.v a.Track.At),(22,P.v b_.Track.At),(27,.i (w64 (a.Track.Radius+b_.Track.Radius)))] {} (TL.c 28 (Y3 a.Track.At b_.Track.At (w64 (a.Track.Radius+b_.Track.Radius))) (fun r1=>.b r1) (fun w _=>Kw a.Track.At b_.Track.At (w64 (a.Track.Radius+b_.Track.Radius)) w) {} (fun r1 hr1=>Zc 18 [] [(30,.b r1)] {} (Yo 30 r1 Kr (fun h2=>?_) (fun h2=>?_))))
   ·refine Zc 23 [0,1] [(32,.i a.Track.Height),(34,.i b_.Track.Height),(35,.i qd)] {} (TL.c 36 (Vv a.Track.Height b_.Track.Height qd) (fun r2=>.b r2) (fun w _=>HW a.Track.Height b_.Track.Height qd w) {} (fun r2 hr2=>Zc 26 [] [(38,.b r2)] {} (Yo 38 r2 Kr (fun h3=>?_) (fun h3=>?_))))
    ·refine Zc 32 [0,1] [(44,.b (a.Track.Code==b_.Track.Code))] {} (Yo 44 (a.Track.Code==b_.Track.Code) Kr (fun h4=>?_) (fun h4=>?_))
     ·exact Zc 43 [] [(6,.b true)] {} (Zb rfl (TC.ret (TE.ret [] (.b true) {} (by unfold K9;refine eS (fun z=>(.b z:Value)) ?_;subst hr1 hr2;exact Zk h1 (Zk h2 (Zk h3 (Zk h4 (rfl))))))))
     ·refine Zc 37 [0] [(49,.b (a.Track.Code==(-1)))] {} (Yo 49 (a.Track.Code==(-1)) Kr (fun h5=>?_) (fun h5=>?_))
      ·exact Zc 43 [] [(6,.b true)] {} (Zb rfl (TC.ret (TE.ret [] (.b true) {} (by unfold K9;refine eS (fun z=>(.b z:Value)) ?_;subst hr1 hr2;exact Zk h1 (Zk h2 (Zk h3 (Zd h4 (Zk h5 (rfl)))))))))
      ·exact Zc 43 [1] [(6,.b (b_.Track.Code==(-1)))] {} (Zb rfl (TC.ret (TE.ret [] (.b (b_.Track.Code==(-1))) {} (by unfold K9;refine eS (fun z=>(.b z:Value)) ?_;subst hr1 hr2;exact Zk h1 (Zk h2 (Zk h3 (Zd h4 (Zd h5 (rfl)))))))))
    ·exact Zc 43 [] [(6,.b false)] {} (Zb rfl (TC.ret (TE.ret [] (.b false) {} (by unfold K9;refine eS (fun z=>(.b z:Value)) ?_;subst hr1 hr2;exact Zk h1 (Zk h2 (Zd h3 (rfl)))))))
   ·exact Zc 43 [] [(6,.b false)] {} (Zb rfl (TC.ret (TE.ret [] (.b false) {} (by unfold K9;refine eS (fun z=>(.b z:Value)) ?_;subst hr1;exact Zk h1 (Zd h2 (rfl))))))
  ·exact Zc 43 [] [(6,.b false)] {} (Zb rfl (TC.ret (TE.ret [] (.b false) {} (by unfold K9;refine eS (fun z=>(.b z:Value)) ?_;exact Zd h1 (rfl)))))
def V4 (i:Int) (k:Int) (x:List Za):Bool :=
 let r1:=cmp_Compare_int (((x[i.toNat]?.getD Za.zero).Track).Radius) (((x[k.toNat]?.getD Za.zero).Track).Radius)
 let r2:=cmp_Compare_int (((x[k.toNat]?.getD Za.zero).Track).Hits) (((x[i.toNat]?.getD Za.zero).Track).Hits)
 let r3:=cmp_Compare_int (((x[i.toNat]?.getD Za.zero).Track).ID) (((x[k.toNat]?.getD Za.zero).Track).ID)
 let r4:=cmp_Compare_int i k
 let r5:=KP ([r1,r2,r3,r4])
 decide (r5<0)
theorem Bl (i:Int) (k:Int) (a_x:Addr) (A_x:Option Addr) (c_x:Nat) (x:List Za) (w:World) (h_x:Rd w 1 (some a_x) [Sl.c (⟨A_x,c_x,x⟩:Sl Za)]) (dn:(⟨A_x,c_x,x⟩:Sl Za).rd w 20 Za.c) (hi:0≤i∧i<(x.length:Int)) (hk:0≤k∧k<(x.length:Int)):Calls Tryz.prog 128 #[.int .i64 i,.int .i64 k,.pointer (some a_x)] w (Ret w (.bool (V4 i k x))):=by
 refine Zo (vs:=[.i i,.i k,.pointer (some a_x)]) (w:=w) Tryz.func128 rfl Tryz.ntmps128 rfl (Ze (Zc 1 [] [(5,.b false)] {} (Zz (Jt (G:=Nat×Nat) (base:=[(0,.i i),(1,.i k),(2,.pointer (some a_x))]) (vals:=fun γ=>[.slice A_x x.length c_x,.i i,.pointer (some (Ix A_x (i.toNat*20))),.pointer (some (Ix A_x (i.toNat*20))),Track.v ((x[i.toNat]?.getD Za.zero).Track),.slice A_x x.length c_x,.i k,.pointer (some (Ix A_x (k.toNat*20))),.pointer (some (Ix A_x (k.toNat*20))),Track.v ((x[k.toNat]?.getD Za.zero).Track),.p0 γ.1,.p0 γ.2,undef,undef]) (writes:=[10,11,12,13]) (mem:=fun bs γ=>match bs with | [pz,fk,uh,x13_]=>(bif uh then [Bk γ.1 (Track.c ((x[i.toNat]?.getD Za.zero).Track)) 70] else bif pz then [Bk γ.1 (Track.c Track.zero) 70] else [])++((bif x13_ then [Bk γ.2 (Track.c ((x[k.toNat]?.getD Za.zero).Track)) 70] else bif fk then [Bk γ.2 (Track.c Track.zero) 70] else [])++([]))|_=>[]) (0,0) (fun γ=>[(0,.i i),(1,.i k),(6,.p0 γ.1),(7,.p0 γ.2)]) Kr Kr Kr Kr Kr (fun γ=>Kr) (fun _ hM=>hM) (fun γ=>Kr) ?_ ?_))))
 ·skip
  exact Xy (i:=0) (fun (γ:Nat×Nat)=>sV (Instr.loadAt 161 (.pointer (some a_x)))) (some 8) (fun (γ:Nat×Nat)=>.slice A_x x.length c_x) (fun _=>[]) Kr (fun S (γ:Nat×Nat) w _ hM=>by rw[mS4 rfl rfl rfl rfl] at hM;exact hM.sub (Zh (Zh (aA _)))) (fun (γ:Nat×Nat) w hM=>Z3 (off:=0) (.slice A_x x.length c_x) (h_x.sat hM) (Jk _) Kr Kr) (fun (γ:Nat×Nat)=>Kr) (fun (γ:Nat×Nat)=>Kr) (Steps.run (i:=1) 2 [0] [] Kr Kr (fun S (γ:Nat×Nat) w hM=>by rw[mS4 rfl rfl rfl rfl] at hM;exact hM.sub (Zh (Zh (aA _)))) Kr (fun (γ:Nat×Nat)=>{}) (Xy (i:=2) (fun (γ:Nat×Nat)=>sV (Instr.indexAt 161 (.slice A_x x.length c_x) (.i i))) (some 10) (fun (γ:Nat×Nat)=>.pointer (some (Ix A_x (i.toNat*20)))) (fun _=>[]) Kr (fun S (γ:Nat×Nat) w _ hM=>by rw[mS4 rfl rfl rfl rfl] at hM;exact hM.sub (Zh (Zh (aA _)))) (fun (γ:Nat×Nat) w hM=>Zy (dn.rd.sat hM) (by simp) Kr sd sd) (fun (γ:Nat×Nat)=>Kr) (fun (γ:Nat×Nat)=>Kr) (Steps.run (i:=3) 4 [0] [] Kr Kr (fun S (γ:Nat×Nat) w hM=>by rw[mS4 rfl rfl rfl rfl] at hM;exact hM.sub (Zh (Zh (aA _)))) Kr (fun (γ:Nat×Nat)=>{}) (Xy (i:=4) (fun (γ:Nat×Nat)=>sV (Instr.loadAt 70 (.pointer (some (Ix A_x (i.toNat*20)))))) (some 12) (fun (γ:Nat×Nat)=>Track.v ((x[i.toNat]?.getD Za.zero).Track)) (fun _=>[]) Kr (fun S (γ:Nat×Nat) w _ hM=>by rw[mS4 rfl rfl rfl rfl] at hM;exact hM.sub (Zh (Zh (aA _)))) (fun (γ:Nat×Nat) w hM=>Yd (n:=13) (off:=0) (i:=i.toNat) (Track.v ((x[i.toNat]?.getD Za.zero).Track)) (dn.rd.sat hM) (ZR (getD_at _ _ Za.zero sd)) Kr Kr Kr) (fun (γ:Nat×Nat)=>Kr) (fun (γ:Nat×Nat)=>Kr) (Xy (i:=5) (fun (γ:Nat×Nat)=>sV (Instr.loadAt 161 (.pointer (some a_x)))) (some 13) (fun (γ:Nat×Nat)=>.slice A_x x.length c_x) (fun _=>[]) Kr (fun S (γ:Nat×Nat) w _ hM=>by rw[mS4 rfl rfl rfl rfl] at hM;exact hM.sub (Zh (Zh (aA _)))) (fun (γ:Nat×Nat) w hM=>Z3 (off:=0) (.slice A_x x.length c_x) (h_x.sat hM) (Jk _) Kr Kr) (fun (γ:Nat×Nat)=>Kr) (fun (γ:Nat×Nat)=>Kr) (Steps.run (i:=6) 7 [0] [] Kr Kr (fun S (γ:Nat×Nat) w hM=>by rw[mS4 rfl rfl rfl rfl] at hM;exact hM.sub (Zh (Zh (aA _)))) Kr (fun (γ:Nat×Nat)=>{}) (Xy (i:=7) (fun (γ:Nat×Nat)=>sV (Instr.indexAt 161 (.slice A_x x.length c_x) (.i k))) (some 15) (fun (γ:Nat×Nat)=>.pointer (some (Ix A_x (k.toNat*20)))) (fun _=>[]) Kr (fun S (γ:Nat×Nat) w _ hM=>by rw[mS4 rfl rfl rfl rfl] at hM;exact hM.sub (Zh (Zh (aA _)))) (fun (γ:Nat×Nat) w hM=>Zy (dn.rd.sat hM) (by simp) Kr sd sd) (fun (γ:Nat×Nat)=>Kr) (fun (γ:Nat×Nat)=>Kr) (Steps.run (i:=8) 9 [0] [] Kr Kr (fun S (γ:Nat×Nat) w hM=>by rw[mS4 rfl rfl rfl rfl] at hM;exact hM.sub (Zh (Zh (aA _)))) Kr (fun (γ:Nat×Nat)=>{}) (Xy (i:=9) (fun (γ:Nat×Nat)=>sV (Instr.loadAt 70 (.pointer (some (Ix A_x (k.toNat*20)))))) (some 17) (fun (γ:Nat×Nat)=>Track.v ((x[k.toNat]?.getD Za.zero).Track)) (fun _=>[]) Kr (fun S (γ:Nat×Nat) w _ hM=>by rw[mS4 rfl rfl rfl rfl] at hM;exact hM.sub (Zh (Zh (aA _)))) (fun (γ:Nat×Nat) w hM=>Yd (n:=13) (off:=0) (i:=k.toNat) (Track.v ((x[k.toNat]?.getD Za.zero).Track)) (dn.rd.sat hM) (ZR (getD_at _ _ Za.zero sd)) Kr Kr Kr) (fun (γ:Nat×Nat)=>Kr) (fun (γ:Nat×Nat)=>Kr) (Steps.op (i:=10) (Γ:=Nat) (fun g (γ:Nat×Nat)=>(g,γ.2)) (fun _=>[]) (fun b (γ:Nat×Nat)=>[Bk b (Track.c Track.zero) 70]) (fun S (γ:Nat×Nat)=>(bif S 13 then [Bk γ.2 (Track.c ((x[k.toNat]?.getD Za.zero).Track)) 70] else bif S 11 then [Bk γ.2 (Track.c Track.zero) 70] else [])++([])) [10,12,13] (fun (γ:Nat×Nat)=>sV (Instr.alloc 70 true (.tuple #[]))) (some 6) (fun b (γ:Nat×Nat)=>.p0 b) (fun S (γ:Nat×Nat) hj hd hl=>by rw[mS4 hj rfl (hl 12 Kr) rfl];exact aC _) (fun S (γ:Nat×Nat) g hl=>by rw[mS4 (S:=upS S 10) (a0:=10) (a1:=11) (a2:=12) (a3:=13) rfl rfl (hl 12 Kr) rfl];exact(aC _).symm) (fun (γ:Nat×Nat) M' w hM=>Jd (v:=fun b=>.p0 b) (fun b M=>Kr) M' w hM) (fun (γ:Nat×Nat)=>Kr) (fun (γ:Nat×Nat) g=>Kr) Kr (fun (γ:Nat×Nat) g=>Kr) (Steps.op (i:=11) (Γ:=Nat) (fun g (γ:Nat×Nat)=>(γ.1,g)) (fun _=>[]) (fun b (γ:Nat×Nat)=>[Bk b (Track.c Track.zero) 70]) (fun S (γ:Nat×Nat)=>(bif S 12 then [Bk γ.1 (Track.c ((x[i.toNat]?.getD Za.zero).Track)) 70] else bif S 10 then [Bk γ.1 (Track.c Track.zero) 70] else [])++([])) [11,12,13] (fun (γ:Nat×Nat)=>sV (Instr.alloc 70 true (.tuple #[]))) (some 7) (fun b (γ:Nat×Nat)=>.p0 b) (fun S (γ:Nat×Nat) hj hd hl=>by rw[mS4 rfl hj rfl (hl 13 Kr)];exact(aB _ (aC _)).trans (ZP _ _ _)) (fun S (γ:Nat×Nat) g hl=>by rw[mS4 (S:=upS S 11) (a0:=10) (a1:=11) (a2:=12) (a3:=13) rfl rfl rfl (hl 13 Kr)];exact((aB _ (aC _)).trans (ZP _ _ _)).symm) (fun (γ:Nat×Nat) M' w hM=>Jd (v:=fun b=>.p0 b) (fun b M=>Kr) M' w hM) (fun (γ:Nat×Nat)=>Kr) (fun (γ:Nat×Nat) g=>Kr) Kr (fun (γ:Nat×Nat) g=>Kr) (Steps.put (i:=12) (fun (γ:Nat×Nat)=>[Bk γ.1 (Track.c Track.zero) 70]) (fun (γ:Nat×Nat)=>[Bk γ.1 (Track.c ((x[i.toNat]?.getD Za.zero).Track)) 70]) (fun S (γ:Nat×Nat)=>(bif S 13 then [Bk γ.2 (Track.c ((x[k.toNat]?.getD Za.zero).Track)) 70] else bif S 11 then [Bk γ.2 (Track.c Track.zero) 70] else [])++([])) (fun (γ:Nat×Nat)=>sU (Instr.storeAt 70 (.p0 γ.1) (Track.v ((x[i.toNat]?.getD Za.zero).Track)))) none (fun S (γ:Nat×Nat) hj hd hl=>by rw[mS4 (hd 10 Kr) rfl hj rfl];exact aC _) (fun S (γ:Nat×Nat) _=>(aC _).symm) (fun (γ:Nat×Nat) M' w hM=>JJ (fun b M=>Kr) (fun b M=>Kr) M' w hM) (fun (γ:Nat×Nat)=>Kr) (fun (γ:Nat×Nat)=>Kr) (Steps.put (i:=13) (fun (γ:Nat×Nat)=>[Bk γ.2 (Track.c Track.zero) 70]) (fun (γ:Nat×Nat)=>[Bk γ.2 (Track.c ((x[k.toNat]?.getD Za.zero).Track)) 70]) (fun S (γ:Nat×Nat)=>(bif S 12 then [Bk γ.1 (Track.c ((x[i.toNat]?.getD Za.zero).Track)) 70] else bif S 10 then [Bk γ.1 (Track.c Track.zero) 70] else [])++([])) (fun (γ:Nat×Nat)=>sU (Instr.storeAt 70 (.p0 γ.2) (Track.v ((x[k.toNat]?.getD Za.zero).Track)))) none (fun S (γ:Nat×Nat) hj hd hl=>by rw[mS4 rfl (hd 11 Kr) rfl hj];exact(aB _ (aC _)).trans (ZP _ _ _)) (fun S (γ:Nat×Nat) _=>((aB _ (aC _)).trans (ZP _ _ _)).symm) (fun (γ:Nat×Nat) M' w hM=>JJ (fun b M=>Kr) (fun b M=>Kr) M' w hM) (fun (γ:Nat×Nat)=>Kr) (fun (γ:Nat×Nat)=>Kr) (XH Kr))))))))))))))
 ·rintro⟨b1,b2⟩
  exact Yp [Bk b1 (Track.c ((x[i.toNat]?.getD Za.zero).Track)) 70,Bk b2 (Track.c ((x[k.toNat]?.getD Za.zero).Track)) 70] (fun _ hM=>hM) (Z4 (TC.seq (KW 18 Kr Kr (JA 4 [0,1] [(19,.i (((x[i.toNat]?.getD Za.zero).Track).Radius)),(21,.i (((x[k.toNat]?.getD Za.zero).Track).Radius))] {} (TQ.c 22 (cmp_Compare_int (((x[i.toNat]?.getD Za.zero).Track).Radius) (((x[k.toNat]?.getD Za.zero).Track).Radius)) (fun r1=>.i r1) (fun w _=>Xz (((x[i.toNat]?.getD Za.zero).Track).Radius) (((x[k.toNat]?.getD Za.zero).Track).Radius) w) rfl {} (fun r1 hr1=>JA 9 [1,0] [(24,.i (((x[k.toNat]?.getD Za.zero).Track).Hits)),(26,.i (((x[i.toNat]?.getD Za.zero).Track).Hits))] {} (TQ.c 27 (cmp_Compare_int (((x[k.toNat]?.getD Za.zero).Track).Hits) (((x[i.toNat]?.getD Za.zero).Track).Hits)) (fun r2=>.i r2) (fun w _=>Xz (((x[k.toNat]?.getD Za.zero).Track).Hits) (((x[i.toNat]?.getD Za.zero).Track).Hits) w) rfl {} (fun r2 hr2=>JA 14 [0,1] [(29,.i (((x[i.toNat]?.getD Za.zero).Track).ID)),(31,.i (((x[k.toNat]?.getD Za.zero).Track).ID))] {} (TQ.c 32 (cmp_Compare_int (((x[i.toNat]?.getD Za.zero).Track).ID) (((x[k.toNat]?.getD Za.zero).Track).ID)) (fun r3=>.i r3) (fun w _=>Xz (((x[i.toNat]?.getD Za.zero).Track).ID) (((x[k.toNat]?.getD Za.zero).Track).ID) w) rfl {} (fun r3 hr3=>JA 17 [] [(33,.i i),(34,.i k)] {} (TQ.c 35 (cmp_Compare_int i k) (fun r4=>.i r4) (fun w _=>Xz i k w) rfl {} (fun r4 hr4=>TQ.tail rfl (ZH 36 (fun b3=>.slice (Pa b3) 4 4) (fun b3=>Bk b3 #[.i r1,.i r2,.i r3,.i r4] 3) (fun b3=>{}) (fun b3=>TL.c 37 (KP ([r1,r2,r3,r4])) (fun r5=>.i r5) (fun w hM=>WR (Pa b3) 4 ([r1,r2,r3,r4]) w (Rd.lit hM 0 _ rfl Kr Kr Kr) (aR _)) {} (fun r5 hr5=>Zc 22 [] [(5,.b (decide (r5<0)))] {} (Zb rfl (TC.ret (TE.ret [] (.b (decide (r5<0))) {} (by unfold V4;refine eS (fun z=>(.b z:Value)) ?_;subst hr1 hr2 hr3 hr4 hr5;exact rfl)))))))))))))))))))
def Ve:List Za→Nat→((Unit) ⊕ ((List Za)×Int))
 | [],_=>.inl ()
 | x::xs,k=>let r1:=ZL x
  cond (r1 != 0) (
   .inr ([],r1)) (
   Ve xs (k+1))
def Jo (l:List Za) (qd:Int) (k_2:Nat) (x_2:Za):List Za→Nat→Bool→Bool
 | [],_,keep=>keep
 | x_3::xs,k_3,keep=>cond ((k_3:Int) != (k_2:Int)) (
   let r3:=K9 x_2 x_3 qd
   cond ((r3&&(x_2.Track.Code==x_3.Track.Code))&&(x_2.Track.Code != (-1))) (
    let r4:=V4 (k_3:Int) (k_2:Int) l
    cond r4 (
     Jo l qd k_2 x_2 xs (k_3+1) false) (
     Jo l qd k_2 x_2 xs (k_3+1) keep)) (
    Jo l qd k_2 x_2 xs (k_3+1) keep)) (
   Jo l qd k_2 x_2 xs (k_3+1) keep)
def Kz (l:List Za) (qd:Int):List Za→Nat→(List Za)→(List Za)
 | [],_,out=>out
 | x_2::xs,k_2,out=>Xq (Jo l qd k_2 x_2 l 0 true) (fun kg =>
   cond kg (
    Kz l qd xs (k_2+1) (out++([x_2]))) (
    Kz l qd xs (k_2+1) out))
def Qx (l:List Za) (qd:Int):List Za×Int :=
 cond (decide ((l.length:Int)>32)) (
  ([],2)) (
  Sum.elim (fun _ =>
   let r2:=Vu qd
   cond r2 (
    ([],4)) (
    Xq (Kz l qd l 0 ([]:List Za)) (fun ql =>
     (ql,0)))) (fun r=>r) (Ve l 0))
set_option maxHeartbeats 4000000 in
theorem DV (A_l:Option Addr) (c_l:Nat) (l:List Za) (qd:Int) (w:World) (h_l:Rd w 20 A_l (l.map Za.c)) (ui:l.length≤c_l):Calls Tryz.prog 92 #[.slice A_l l.length c_l,.int .i64 qd] w (JD (Γ:=(Option Addr×Nat)) (cx w) (fun g=>.tuple #[.slice g.1 ((Qx l qd).1.length) g.2,.int .i64 ((Qx l qd).2)]) (fun g=>[.inr (Own g.1 g.2 107 20 (((Qx l qd).1).map Za.c))])):=by
 have s_l:=h_l.short;rw[aF] at s_l
 refine Zo (vs:=[.slice A_l l.length c_l,.i qd]) (w:=w) Tryz.func92 rfl Tryz.ntmps92 rfl (Ze (ZH 2 (fun b1=>.p0 b1) (fun b1=>Bk b1 #[.slice A_l l.length c_l] 161) (fun b1=>{}) (fun b1=>Zc 3 [] [(4,.slice none 0 0),(5,.i 0)] {} (Zz (Ze (Zc 3 [0] [(18,.b (decide ((l.length:Int)>32)))] {} (Zb rfl (TC.cond (decide ((l.length:Int)>32)) rfl Kr (fun h1=>?_) (fun h1=>?_)))))))))
 ·refine Ze (Zc 2 [] [(4,.slice none 0 0),(5,.i 2)] {} (Zb rfl (TC.ret (Zq ?_))))
  have e:Qx l qd=([],2):=by unfold Qx;exact Zk h1 (rfl)
  refine Yp [Ow none 0 107 20 (([]:List Za).map Za.c),Bk b1 #[.slice A_l l.length c_l] 161] (fun _ hM=>hM.emptyrow none 107 20) ?_
  rw[e]
  exact ZN (.inl rfl) (none,0) [] (.tuple #[.slice none 0 0,.i 2]) {} rfl (fun _ hM=>hM.sub (sb 1))
 ·have j4:=(Zt h1)
  refine Yg (TC.seq (Ze (Zc 3 [0] [(19,.slice A_l l.length c_l),(20,.i (l.length:Int)),(21,.i 0)] {} (Zb rfl ?_))))
  obtain⟨R2,hR⟩:∃ R,R=Ve l 0:=⟨_,rfl⟩
  refine TC.cut (S:=Unit) (fun (_:Unit)=>[(1,.i qd),(2,.p0 b1)]) (fun (_:Unit)=>[Bk b1 #[.slice A_l l.length c_l] 161]) (fun (_:Unit)=>R2=.inl ()) ?_ ?_
  ·refine TC.block (XB (X:=Nat) (fun k=>[(1,.i qd),(2,.p0 b1),(19,.slice A_l l.length c_l),(20,.i (l.length:Int)),(21,.i (k:Int))]) (fun k=>[Bk b1 #[.slice A_l l.length c_l] 161]) (fun k=>l.length-k) (fun k=>k≤l.length∧R2=Ve (l.drop k) k) ?_ 0 ⟨aN _,hR⟩ Kr (sb 1))
   rintro k ⟨hk,hI⟩
   refine Ze (Zc 1 [] [(22,.b (decide ((k:Int)<(l.length:Int))))] {} (Zz (TC.cond (decide ((k:Int)<(l.length:Int))) rfl Kr (fun h2=>?_) (fun h2=>?_))))
   ·have hlt:=ltN h2
    obtain⟨x,hx⟩:=elN hlt
    have hd:=drop_at hx
    refine Yg (TC.seq (TC.block (Ze (TL.v (sV (Instr.indexAt 161 (.slice A_l l.length c_l) (.i (k:Int)))) 23 (.pointer (some (Ix A_l (k*20)))) (fun w hM=>Zy (h_l.sat hM) (by simp) Kr sd sd) {} (TL.v (sV (Instr.loadAt 107 (.pointer (some (Ix A_l (k*20)))))) 24 (Za.v x) (fun w hM=>Yd (n:=20) (off:=0) (i:=k) (Za.v x) (h_l.sat hM) (ZR hx) Kr Kr Kr) {} (ZH 7 (fun b2=>.p0 b2) (fun b2=>Bk b2 (Za.c Za.zero) 107) (fun b2=>{}) (fun b2=>Ym 0 (Bk b2 (Za.c x) 107) (fun _=>{}) (Zv (Zc 1 [0] [(25,Za.v x)] {} (TL.c 26 (ZL x) (fun r1=>.i r1) (fun w _=>QK x w) {} (fun r1 hr1=>Zc 3 [] [(8,.i r1)] {} (Zv (Zc 2 [] [(28,.b (r1 != 0))] {} (Zb rfl (TC.cond (r1 != 0) rfl Kr (fun h3=>?_) (fun h3=>?_))))))))))))))))
    ·refine Ze (Zc 3 [] [(4,.slice none 0 0),(5,.i r1)] {} (Zb rfl (TC.ret (ZY (Zq (Zq (ZY (Zq (Zq ?_)))))))))
     have e:Qx l qd=([],r1):=by subst hr1;unfold Qx;exact Zd h1 (Q4 (hR.symm.trans (hI.trans (by rw[hd];exact Zk h3 (rfl)))) rfl)
     refine Yp [Ow none 0 107 20 (([]:List Za).map Za.c),Bk b2 (Za.c x) 107,Bk b1 #[.slice A_l l.length c_l] 161] (fun _ hM=>hM.emptyrow none 107 20) ?_
     rw[e]
     exact ZN (.inl rfl) (none,0) [] (.tuple #[.slice none 0 0,.i r1]) {} rfl (fun _ hM=>hM.sub (sb 1))
    ·have wm:=(Jb h3)
     exact TC.skip (Yr (Z4 (TC.region (Zc 2 [] [(21,.i (w64 ((k:Int)+1)))] {} (Z2 rfl (TE.rw 21 (.i (w64 ((k:Int)+1))) (.i ((k+1:Nat):Int)) Kr (ZT k (by omega)) (Z7 (x:=k) (k+1) ⟨by omega,hI.trans (by subst hr1;rw[hd];exact Zd h3 (rfl))⟩ (mN hlt) Kr (sb 2))))))))
   ·have hd:=QE h2
    refine TC.exit (Yc (Yc (Z1 ?_)))
    exact TE.cut () (hI.trans (by rw[hd];exact rfl)) Kr (sb 1)
  ·intro _ hJ
   refine Z4 (TC.seq (Ze (Zc 1 [] [(31,.i qd)] {} (TL.c 32 (Vu qd) (fun r2=>.b r2) (fun w _=>Hh qd w) {} (fun r2 hr2=>Zb rfl (TC.cond r2 rfl Kr (fun h4=>?_) (fun h4=>?_)))))))
   ·refine Ze (Zc 2 [] [(4,.slice none 0 0),(5,.i 4)] {} (Zb rfl (TC.ret (Zq ?_))))
    have e:Qx l qd=([],4):=by subst hr2;unfold Qx;exact Zd h1 (Q2 (hR.symm.trans hJ) (Zk h4 (rfl)))
    refine Yp [Ow none 0 107 20 (([]:List Za).map Za.c),Bk b1 #[.slice A_l l.length c_l] 161] (fun _ hM=>hM.emptyrow none 107 20) ?_
    rw[e]
    exact ZN (.inl rfl) (none,0) [] (.tuple #[.slice none 0 0,.i 4]) {} rfl (fun _ hM=>hM.sub (sb 1))
   ·refine ZI (Zc 2 [] [(9,.func (.func 128) #[] #[.p0 b1])] {} (Zv (Zc 1 [] [(10,.slice none 0 0)] {} (Zz (Ze (Zc 3 [0] [(34,.slice A_l l.length c_l),(35,.i (l.length:Int)),(36,.i 0)] {} (Zb rfl (QS [Ow none 0 107 20 (([]:List Za).map Za.c),Bk b1 #[.slice A_l l.length c_l] 161] (fun _ hM=>hM.emptyrow none 107 20) ?_))))))))
    obtain⟨R6,x9⟩:∃ R,R=Kz l qd l 0 ([]:List Za):=⟨_,rfl⟩
    refine TC.cut (S:=(List Za)×(Option Addr)×Nat) (fun (ql,A_out_2,qk)=>[(10,.slice A_out_2 ql.length qk)]) (fun (ql,A_out_2,qk)=>[Ow A_out_2 qk 107 20 (ql.map Za.c)]) (fun (ql,A_out_2,qk)=>R6=ql∧ql.length≤l.length) ?_ ?_
    ·refine TC.block (XB (X:=Nat×(List Za)×(Option Addr)×Nat) (fun (k_2,out,A_out,qg)=>[(1,.i qd),(2,.p0 b1),(9,.func (.func 128) #[] #[.p0 b1]),(10,.slice A_out out.length qg),(34,.slice A_l l.length c_l),(35,.i (l.length:Int)),(36,.i (k_2:Int))]) (fun (k_2,out,A_out,qg)=>[Ow A_out qg 107 20 (out.map Za.c),Bk b1 #[.slice A_l l.length c_l] 161]) (fun (k_2,out,A_out,qg)=>l.length-k_2) (fun (k_2,out,A_out,qg)=>k_2≤l.length∧R6=Kz l qd (l.drop k_2) k_2 out∧out.length≤k_2) ?_ (0,([]:List Za),none,0) ⟨aN _,x9,sz⟩ Kr (sb 3))
     rintro⟨k_2,out,A_out,qg⟩ ⟨y9,xg,wo⟩
     refine Ze (Zc 1 [] [(37,.b (decide ((k_2:Int)<(l.length:Int))))] {} (Zz (TC.cond (decide ((k_2:Int)<(l.length:Int))) rfl Kr (fun h5=>?_) (fun h5=>?_))))
     ·have zp:=ltN h5
      obtain⟨x_2,xw⟩:=elN zp
      have zr:=drop_at xw
      refine Yg (TC.seq (TC.block (Ze (Zc 1 [] [(38,.i (k_2:Int))] {} (TL.v (sV (Instr.indexAt 161 (.slice A_l l.length c_l) (.i (k_2:Int)))) 39 (.pointer (some (Ix A_l (k_2*20)))) (fun w hM=>Zy (h_l.sat hM) (by simp) Kr sd sd) {} (TL.v (sV (Instr.loadAt 107 (.pointer (some (Ix A_l (k_2*20)))))) 40 (Za.v x_2) (fun w hM=>Yd (n:=20) (off:=0) (i:=k_2) (Za.v x_2) (h_l.sat hM) (ZR xw) Kr Kr Kr) {} (ZH 12 (fun b3=>.p0 b3) (fun b3=>Bk b3 (Za.c Za.zero) 107) (fun b3=>{}) (fun b3=>Zc 5 [] [(11,.i (k_2:Int))] {} (Ym 0 (Bk b3 (Za.c x_2) 107) (fun _=>{}) (Zv (Zc 1 [] [(13,.b true)] {} (Zz (Ze (Zc 3 [2] [(41,.slice A_l l.length c_l),(42,.i (l.length:Int)),(43,.i 0)] {} (Zb rfl ?_)))))))))))))))
      obtain⟨R7,uj⟩:∃ R,R=Jo l qd k_2 x_2 l 0 true:=⟨_,rfl⟩
      refine TC.cut (S:=Bool) (fun kg=>[(1,.i qd),(2,.p0 b1),(9,.func (.func 128) #[] #[.p0 b1]),(10,.slice A_out out.length qg),(12,.p0 b3),(13,.b kg),(34,.slice A_l l.length c_l),(35,.i (l.length:Int)),(36,.i (k_2:Int))]) (fun kg=>[Bk b3 (Za.c x_2) 107,Ow A_out qg 107 20 (out.map Za.c),Bk b1 #[.slice A_l l.length c_l] 161]) (fun kg=>R7=kg) ?_ ?_
      ·refine TC.block (XB (X:=Nat×Bool) (fun (k_3,keep)=>[(1,.i qd),(2,.p0 b1),(9,.func (.func 128) #[] #[.p0 b1]),(10,.slice A_out out.length qg),(11,.i (k_2:Int)),(12,.p0 b3),(13,.b keep),(34,.slice A_l l.length c_l),(35,.i (l.length:Int)),(36,.i (k_2:Int)),(41,.slice A_l l.length c_l),(42,.i (l.length:Int)),(43,.i (k_3:Int))]) (fun (k_3,keep)=>[Bk b3 (Za.c x_2) 107,Ow A_out qg 107 20 (out.map Za.c),Bk b1 #[.slice A_l l.length c_l] 161]) (fun (k_3,keep)=>l.length-k_3) (fun (k_3,keep)=>k_3≤l.length∧R7=Jo l qd k_2 x_2 (l.drop k_3) k_3 keep) ?_ (0,true) ⟨aN _,uj⟩ Kr (sb 7))
       rintro⟨k_3,keep⟩ ⟨l5,w6⟩
       refine Ze (Zc 1 [] [(44,.b (decide ((k_3:Int)<(l.length:Int))))] {} (Zz (TC.cond (decide ((k_3:Int)<(l.length:Int))) rfl Kr (fun h6=>?_) (fun h6=>?_))))
       ·have wq:=ltN h6
        obtain⟨x_3,fl⟩:=elN wq
        have yw:=drop_at fl
        refine Yg (TC.seq (TC.block (Ze (Zc 1 [] [(45,.i (k_3:Int))] {} (TL.v (sV (Instr.indexAt 161 (.slice A_l l.length c_l) (.i (k_3:Int)))) 46 (.pointer (some (Ix A_l (k_3*20)))) (fun w hM=>Zy (h_l.sat hM) (by simp) Kr sd sd) {} (TL.v (sV (Instr.loadAt 107 (.pointer (some (Ix A_l (k_3*20)))))) 47 (Za.v x_3) (fun w hM=>Yd (n:=20) (off:=0) (i:=k_3) (Za.v x_3) (h_l.sat hM) (ZR fl) Kr Kr Kr) {} (ZH 15 (fun b4=>.p0 b4) (fun b4=>Bk b4 (Za.c Za.zero) 107) (fun b4=>{}) (fun b4=>Zc 5 [] [(14,.i (k_3:Int))] {} (Ym 0 (Bk b4 (Za.c x_3) 107) (fun _=>{}) (Zv (Zc 4 [] [(51,.b ((k_3:Int) != (k_2:Int)))] {} (Yo 51 ((k_3:Int) != (k_2:Int)) Kr (fun h7=>?_) (fun h7=>?_)))))))))))))
        ·have ym:=(C6 h7)
         refine Zc 7 [1,0] [(52,Za.v x_2),(53,Za.v x_3),(54,.i qd)] {} (TL.c 55 (K9 x_2 x_3 qd) (fun r3=>.b r3) (fun w _=>Lm x_2 x_3 qd w) {} (fun r3 hr3=>Zc 10 [] [(57,.b r3)] {} (XT 57 r3 18 [1,0] [] (fun β=>[(65,.b (β&&(x_2.Track.Code==x_3.Track.Code)))]) Kr {} {} (Zc 19 [] [(66,.b (r3&&(x_2.Track.Code==x_3.Track.Code)))] {} (XT 66 (r3&&(x_2.Track.Code==x_3.Track.Code)) 24 [1] [] (fun β=>[(71,.b (β&&(x_2.Track.Code != (-1))))]) Kr {} {} (Zc 25 [] [(72,.b ((r3&&(x_2.Track.Code==x_3.Track.Code))&&(x_2.Track.Code != (-1))))] {} (Yo 72 ((r3&&(x_2.Track.Code==x_3.Track.Code))&&(x_2.Track.Code != (-1))) Kr (fun h8=>?_) (fun h8=>?_))))))))
         ·have l6:=(Xf (JZ (Jl h8)))
          have oh:=(C6 (JZ h8))
          refine Zc 28 [] [(73,.func (.func 128) #[] #[.p0 b1]),(74,.i (k_3:Int)),(75,.i (k_2:Int))] {} (TL.c 76 (V4 (k_3:Int) (k_2:Int) l) (fun r4=>.b r4) (fun w hM=>Bl (k_3:Int) (k_2:Int) ⟨b1,0,none⟩ A_l c_l l w (Rd.lit hM 3 _ rfl Kr Kr Kr) ⟨(h_l.sat hM),ui⟩ sg sg) {} (fun r4 hr4=>Zc 30 [] [(77,.b r4)] {} (Zb rfl (TC.cond r4 rfl Kr (fun h9=>?_) (fun h9=>?_)))))
          ·exact TC.region (Zc 1 [] [(13,.b false)] {} (Z2 rfl (Yr (Z4 (TC.region (Zc 2 [] [(43,.i (w64 ((k_3:Int)+1)))] {} (Z2 rfl (TE.rw 43 (.i (w64 ((k_3:Int)+1))) (.i ((k_3+1:Nat):Int)) Kr (ZT k_3 (by omega)) (Z7 (x:=(k_3,keep)) (k_3+1,false) ⟨by omega,w6.trans (by subst hr2 hr3 hr4;rw[yw];exact Zk h7 (Zk h8 (Zk h9 (rfl))))⟩ (mN wq) Kr (sb 14))))))))))
          ·exact TC.skip (Yr (Z4 (TC.region (Zc 2 [] [(43,.i (w64 ((k_3:Int)+1)))] {} (Z2 rfl (TE.rw 43 (.i (w64 ((k_3:Int)+1))) (.i ((k_3+1:Nat):Int)) Kr (ZT k_3 (by omega)) (Z7 (x:=(k_3,keep)) (k_3+1,keep) ⟨by omega,w6.trans (by subst hr2 hr3 hr4;rw[yw];exact Zk h7 (Zk h8 (Zd h9 (rfl))))⟩ (mN wq) Kr (sb 14))))))))
         ·exact Zc 30 [] [(77,.b false)] {} (Zb rfl (Jr rfl Kr (TC.skip (Yr (Z4 (TC.region (Zc 2 [] [(43,.i (w64 ((k_3:Int)+1)))] {} (Z2 rfl (TE.rw 43 (.i (w64 ((k_3:Int)+1))) (.i ((k_3+1:Nat):Int)) Kr (ZT k_3 (by omega)) (Z7 (x:=(k_3,keep)) (k_3+1,keep) ⟨by omega,w6.trans (by subst hr2 hr3;rw[yw];exact Zk h7 (Zd h8 (rfl)))⟩ (mN wq) Kr (sb 14)))))))))))
        ·have ym:=(Jb h7)
         exact Zc 30 [] [(77,.b false)] {} (Zb rfl (Jr rfl Kr (TC.skip (Yr (Z4 (TC.region (Zc 2 [] [(43,.i (w64 ((k_3:Int)+1)))] {} (Z2 rfl (TE.rw 43 (.i (w64 ((k_3:Int)+1))) (.i ((k_3+1:Nat):Int)) Kr (ZT k_3 (by omega)) (Z7 (x:=(k_3,keep)) (k_3+1,keep) ⟨by omega,w6.trans (by subst hr2;rw[yw];exact Zd h7 (rfl))⟩ (mN wq) Kr (sb 14)))))))))))
       ·have yw:=QE h6
        refine TC.exit (Yc (Yc (Z1 ?_)))
        exact TE.cut keep (w6.trans (by subst hr2;rw[yw];exact rfl)) Kr (sb 7)
      ·rintro kg gr
       refine YZ (Zc 1 [] [(79,.b kg)] {} (Zb rfl (TC.cond kg rfl Kr (fun h10=>?_) (fun h10=>?_))))
       ·refine TC.region (Zc 2 [0] [(80,.slice A_out out.length qg),(81,Za.v x_2)] {} (ZH 82 (fun b5=>.slice (Pa b5) 1 1) (fun b5=>Bk b5 (Za.c x_2) 107) (fun b5=>{}) (fun b5=>TL.os (Γ:=AN) (sV (Builtin.append_ #[161,161] 161 #[.slice A_out out.length qg,.slice (Pa b5) 1 1])) 83 (fun g=>.slice g.1 (out++([x_2])).length g.2) 2 (fun g=>Ow g.1 g.2 107 20 ((out++([x_2])).map Za.c)) (Jc (bytes:=160) 161 2 ([x_2]) Kr rfl rfl Za.one rfl (fun w hM=>(Rd.lit hM 0 _ rfl Kr Kr Kr)) rfl sa) {} ?_)))
        rintro⟨A,c⟩
        exact Zc 5 [] [(10,.slice A ((out++([x_2])).length) c)] {} (Z2 rfl (Yr (Z4 (TC.region (Zc 2 [] [(36,.i (w64 ((k_2:Int)+1)))] {} (Z2 rfl (TE.rw 36 (.i (w64 ((k_2:Int)+1))) (.i ((k_2+1:Nat):Int)) Kr (ZT k_2 (by omega)) (Z7 (x:=(k_2,out,A_out,qg)) (k_2+1,(out++([x_2])),A,c) ⟨by omega,xg.trans (by subst hr2;rw[zr];exact Y5 (uj.symm.trans gr) (Zk h10 (rfl))),sl⟩ (mN zp) Kr (sb 12)))))))))
       ·exact TC.skip (Yr (Z4 (TC.region (Zc 2 [] [(36,.i (w64 ((k_2:Int)+1)))] {} (Z2 rfl (TE.rw 36 (.i (w64 ((k_2:Int)+1))) (.i ((k_2+1:Nat):Int)) Kr (ZT k_2 (by omega)) (Z7 (x:=(k_2,out,A_out,qg)) (k_2+1,out,A_out,qg) ⟨by omega,xg.trans (by subst hr2;rw[zr];exact Y5 (uj.symm.trans gr) (Zd h10 (rfl))),sl⟩ (mN zp) Kr (sb 6))))))))
     ·have zr:=QE h5
      refine TC.exit (Yc (Yc (Z1 ?_)))
      exact TE.cut (out,A_out,qg) (⟨xg.trans (by subst hr2;rw[zr];exact rfl),sl⟩) Kr (sb 1)
    ·rintro⟨ql,A_out_2,qk⟩ ⟨va,vu⟩
     refine YZ (Zc 3 [] [(4,.slice A_out_2 ql.length qk),(5,.i 0)] {} (Zb rfl (TC.ret ?_)))
     have e:Qx l qd=(ql,0):=by subst hr2;unfold Qx;exact Zd h1 (Q2 (hR.symm.trans hJ) (Zd h4 (Y5 (x9.symm.trans va) (rfl))))
     rw[e]
     exact ZN (.inl rfl) (A_out_2,qk) [] (.tuple #[.slice A_out_2 ql.length qk,.i 0]) {} rfl (fun _ hM=>hM.sub (sb 1))
end Go.Sky
end
section
namespace Go.Sky
open Go Go.Eng Go.Proofs
def Qo (a:Zm) (b_:Zm) (qd:Int):Bool :=
 cond (((a.Time==b_.Time)&&(a.Code==b_.Code))&&(a.Code != (-1))) (
  let r1:=Y3 a.At b_.At (w64 (a.Error+b_.Error))
  cond r1 (
   let r2:=Vv a.Height b_.Height qd
   r2) (
   false)) (
  false)
theorem N7 (a:Zm) (b_:Zm) (qd:Int) (w:World):Calls Tryz.prog 42 #[Zm.v a,Zm.v b_,.int .i64 qd] w (Ret w (.bool (Qo a b_ qd))):=by
 refine Zo (vs:=[Zm.v a,Zm.v b_,.i qd]) (w:=w) Tryz.func42 rfl Tryz.ntmps42 rfl (Ze (ZH 3 (fun b1=>.p0 b1) (fun b1=>Bk b1 (Zm.c a) 46) (fun b1=>{}) (fun b1=>ZH 4 (fun b2=>.p0 b2) (fun b2=>Bk b2 (Zm.c b_) 46) (fun b2=>{}) (fun b2=>Zc 3 [] [(6,.b false)] {} (Zv (Zc 6 [1,0] [(12,.b (a.Time==b_.Time))] {} (XT 12 (a.Time==b_.Time) 12 [1,0] [] (fun β=>[(18,.b (β&&(a.Code==b_.Code)))]) Kr {} {} (Zc 13 [] [(19,.b ((a.Time==b_.Time)&&(a.Code==b_.Code)))] {} (XT 19 ((a.Time==b_.Time)&&(a.Code==b_.Code)) 17 [1] [] (fun β=>[(23,.b (β&&(a.Code != (-1))))]) Kr {} {} (Zc 18 [] [(24,.b (((a.Time==b_.Time)&&(a.Code==b_.Code))&&(a.Code != (-1))))] {} (Yo 24 (((a.Time==b_.Time)&&(a.Code==b_.Code))&&(a.Code != (-1))) Kr (fun h1=>?_) (fun h1=>?_))))))))))))
 ·refine Zc 27 [1,0,1,0] [(26,P.v a.At),(28,P.v b_.At),(33,.i (w64 (a.Error+b_.Error)))] {} (TL.c 34 (Y3 a.At b_.At (w64 (a.Error+b_.Error))) (fun r1=>.b r1) (fun w _=>Kw a.At b_.At (w64 (a.Error+b_.Error)) w) {} (fun r1 hr1=>Zc 30 [] [(36,.b r1)] {} (Yo 36 r1 Kr (fun h2=>?_) (fun h2=>?_))))
  ·exact Zc 35 [1,0] [(38,.i a.Height),(40,.i b_.Height),(41,.i qd)] {} (TL.c 42 (Vv a.Height b_.Height qd) (fun r2=>.b r2) (fun w _=>HW a.Height b_.Height qd w) {} (fun r2 hr2=>Zc 38 [] [(6,.b r2)] {} (Zb rfl (TC.ret (TE.ret [] (.b r2) {} (by unfold Qo;refine eS (fun z=>(.b z:Value)) ?_;subst hr1 hr2;exact Zk h1 (Zk h2 (rfl))))))))
  ·exact Zc 38 [] [(6,.b false)] {} (Zb rfl (TC.ret (TE.ret [] (.b false) {} (by unfold Qo;refine eS (fun z=>(.b z:Value)) ?_;subst hr1;exact Zk h1 (Zd h2 (rfl))))))
 ·exact Zc 38 [] [(6,.b false)] {} (Zb rfl (TC.ret (TE.ret [] (.b false) {} (by unfold Qo;refine eS (fun z=>(.b z:Value)) ?_;exact Zd h1 (rfl)))))
def YO (s:List Zm):List Zm :=
 s
theorem Vf (A_s:Option Addr) (c_s:Nat) (s:List Zm) (w:World) (h_s:Rd w 6 A_s (s.map Zm.c)) (_hc_s:s.length≤c_s) (hb:s.length*48≤140737488355328):Calls Tryz.prog 37 #[.slice A_s s.length c_s] w (JD (Γ:=(Option Addr×Nat)) (cx w) (fun g=>.slice g.1 ((YO s).length) g.2) (fun g=>[.inr (Own g.1 g.2 46 6 ((YO s).map Zm.c))])):=by
 have s_s:=h_s.short;rw[aF] at s_s
 rcases A_s with _|a
 ·have hz:s=[]:=HN h_s
  subst hz
  refine Zo (vs:=[.slice none 0 c_s]) (w:=w) Tryz.func37 rfl Tryz.ntmps37 rfl (J2 [(0,.slice none 0 c_s)] Kr (Ze (Zc 1 [] [(2,.slice none 0 0)] {} (Zz (Ze (Zc 2 [] [(4,.b true)] {} (Zb rfl (Xo rfl Kr (Ze (Zc 1 [] [(2,.slice none 0 0)] {} (Zb rfl (TC.ret (Zq ?_)))))))))))))
  have e:YO []=([]):=rfl
  refine Yp [Ow none 0 46 6 (([]:List Zm).map Zm.c)] (fun _ hM=>hM.emptyrow none 46 6) ?_
  rw[e]
  exact ZN (.inl rfl) (none,0) [] (.slice none 0 0) {} rfl (fun _ hM=>hM.sub (sb 1))
 ·refine Zo (vs:=[.slice (some a) s.length c_s]) (w:=w) Tryz.func37 rfl Tryz.ntmps37 rfl (J2 [(0,.slice (some a) s.length c_s)] Kr (Ze (Zc 1 [] [(2,.slice none 0 0)] {} (Zz (Ze (Zc 2 [] [(4,.b false)] {} (Zb rfl (Jr rfl Kr (ZI (ZH 5 (fun b1=>.slice (Pa b1) 0 0) (fun b1=>Bk b1 #[] 46) (fun b1=>{}) (fun b1=>Zc 2 [] [(6,.slice (some a) s.length c_s)] {} (YS [Ow (Pa b1) 0 46 6 (([]:List Zm).map Zm.c)] (fun _ hM=>by exact hM.litrow 0 (([]:List Zm).map Zm.c) rfl Kr Kr Kr Kr) (TL.os (Γ:=AN) (sV (Builtin.append_ #[52,52] 52 #[.slice (Pa b1) (([]:List Zm).length) 0,.slice (some a) s.length c_s])) 7 (fun g=>.slice g.1 (([]:List Zm)++s).length g.2) 0 (fun g=>Ow g.1 g.2 46 6 ((([]:List Zm)++s).map Zm.c)) (Jc (bytes:=48) 52 0 s Kr rfl rfl Zm.one rfl (fun w hM=>(h_s.sat hM)) rfl sa) {} ?_)))))))))))))
  rintro⟨A,c⟩
  refine Zc 4 [] [(2,.slice A ((([]:List Zm)++s).length) c)] {} (Zb rfl (TC.ret ?_))
  have e:YO s=(([]:List Zm)++s):=rfl
  rw[e]
  exact ZN (.inl rfl) (A,c) [] (.slice A ((([]:List Zm)++s).length) c) {} rfl (fun _ hM=>hM.sub (sb 1))
def KA (x:Zm) (x_2:Zm) (x_3:Int):Bool :=
 let r1:=Qo x x_2 x_3
 r1
theorem Di (x:Zm) (jn:Addr) (x_2:Zm) (vn:Addr) (x_3:Int) (w:World) (yu:Rd w 6 (some jn) [Zm.c x_2]) (pj:Rd w 1 (some vn) [ic x_3]):Calls Tryz.prog 41 #[Zm.v x,.pointer (some jn),.pointer (some vn)] w (Ret w (.bool (KA x x_2 x_3))):=by
 exact Zo (vs:=[Zm.v x,.pointer (some jn),.pointer (some vn)]) (w:=w) Tryz.func41 rfl Tryz.ntmps41 rfl (Ze (ZH 3 (fun b1=>.p0 b1) (fun b1=>Bk b1 (Zm.c x) 46) (fun b1=>{}) (fun b1=>Zc 2 [] [(4,.b false)] {} (Zv (Zc 1 [0] [(5,Zm.v x)] {} (TL.v (sV (Instr.loadAt 46 (.pointer (some jn)))) 6 (Zm.v x_2) (fun w hM=>Yd (n:=6) (off:=0) (Zm.v x_2) (yu.sat hM) (Jk _) Kr Kr Kr) {} (TL.v (sV (Instr.loadAt 3 (.pointer (some vn)))) 7 (.i x_3) (fun w hM=>Z3 (off:=0) (.i x_3) (pj.sat hM) (Jk _) Kr Kr) {} (TL.c 8 (Qo x x_2 x_3) (fun r1=>.b r1) (fun w _=>N7 x x_2 x_3 w) {} (fun r1 hr1=>Zc 5 [] [(4,.b r1)] {} (Zb rfl (TC.ret (TE.ret [] (.b r1) {} (by unfold KA;refine eS (fun z=>(.b z:Value)) ?_;subst hr1;exact rfl)))))))))))))
def Qe (c0:Zm) (c1:Int):List Zm→Nat→((Unit) ⊕ (Int))
 | [],_=>.inl ()
 | x::xs,k=>let r1:=KA x c0 c1
  cond r1 (
   .inr (k:Int)) (
   Qe c0 c1 xs (k+1))
def Jp (s:List Zm) (c0:Zm) (c1:Int):Int :=
 Sum.elim (fun _ =>
  (-1)) (fun r=>r) (Qe c0 c1 s 0)
theorem HE (A_s:Option Addr) (c_s:Nat) (s:List Zm) (xl:Addr) (c0:Zm) (kh:Addr) (c1:Int) (w:World) (h_s:Rd w 6 A_s (s.map Zm.c)) (_hc_s:s.length≤c_s) (w5:Rd w 6 (some xl) [Zm.c c0]) (fm:Rd w 1 (some kh) [ic c1]):Calls Tryz.prog 77 #[.slice A_s s.length c_s,.func (.func 41) #[] #[.pointer (some xl),.pointer (some kh)]] w (Ret w (.int .i64 (Jp s c0 c1))):=by
 have s_s:=h_s.short;rw[aF] at s_s
 refine Zo (vs:=[.slice A_s s.length c_s,.func (.func 41) #[] #[.pointer (some xl),.pointer (some kh)]]) (w:=w) Tryz.func77 rfl Tryz.ntmps77 rfl (Ze (Zc 1 [] [(4,.i 0)] {} (Zz (Ze (Zc 3 [] [(7,.i (s.length:Int)),(8,.i 0)] {} (Zb rfl ?_))))))
 obtain⟨R1,hR⟩:∃ R,R=Qe c0 c1 s 0:=⟨_,rfl⟩
 refine TC.cut (S:=Unit) (fun (_:Unit)=>[]) (fun (_:Unit)=>[]) (fun (_:Unit)=>R1=.inl ()) ?_ ?_
 ·refine TC.block (XB (X:=Nat) (fun k=>[(0,.slice A_s s.length c_s),(1,.func (.func 41) #[] #[.pointer (some xl),.pointer (some kh)]),(7,.i (s.length:Int)),(8,.i (k:Int))]) (fun k=>[]) (fun k=>s.length-k) (fun k=>k≤s.length∧R1=Qe c0 c1 (s.drop k) k) ?_ 0 ⟨aN _,hR⟩ Kr (sb 0))
  rintro k ⟨hk,hI⟩
  refine Ze (Zc 1 [] [(9,.b (decide ((k:Int)<(s.length:Int))))] {} (Zz (TC.cond (decide ((k:Int)<(s.length:Int))) rfl Kr (fun h1=>?_) (fun h1=>?_))))
  ·have hlt:=ltN h1
   obtain⟨x,hx⟩:=elN hlt
   have hd:=drop_at hx
   refine Yg (TC.seq (TC.block (Ze (Zc 2 [] [(5,.i (k:Int))] {} (Zv (Zc 3 [] [(11,.func (.func 41) #[] #[.pointer (some xl),.pointer (some kh)]),(12,.slice A_s s.length c_s),(13,.i (k:Int))] {} (TL.v (sV (Instr.indexAt 52 (.slice A_s s.length c_s) (.i (k:Int)))) 14 (.pointer (some (Ix A_s (k*6)))) (fun w hM=>Zy (h_s.sat hM) (by simp) Kr sd sd) {} (TL.v (sV (Instr.loadAt 46 (.pointer (some (Ix A_s (k*6)))))) 15 (Zm.v x) (fun w hM=>Yd (n:=6) (off:=0) (i:=k) (Zm.v x) (h_s.sat hM) (ZR hx) Kr Kr Kr) {} (TL.c 16 (KA x c0 c1) (fun r1=>.b r1) (fun w hM=>Di x xl c0 kh c1 w (w5.sat hM) (fm.sat hM)) {} (fun r1 hr1=>Zb rfl (TC.cond r1 rfl Kr (fun h2=>?_) (fun h2=>?_))))))))))))
   ·refine Ze (Zc 2 [] [(4,.i (k:Int))] {} (Zb rfl (TC.ret (ZY (Zq (Zq (ZY (Zq (Zq ?_)))))))))
    exact TE.ret [] (.i (k:Int)) {} (by unfold Jp;refine eS (fun z=>(.i z:Value)) ?_;subst hr1;exact Q4 (hR.symm.trans (hI.trans (by rw[hd];exact Zk h2 (rfl)))) rfl)
   ·exact TC.skip (Yr (Z4 (TC.region (Zc 2 [] [(8,.i (w64 ((k:Int)+1)))] {} (Z2 rfl (TE.rw 8 (.i (w64 ((k:Int)+1))) (.i ((k+1:Nat):Int)) Kr (ZT k (by omega)) (Z7 (x:=k) (k+1) ⟨by omega,hI.trans (by subst hr1;rw[hd];exact Zd h2 (rfl))⟩ (mN hlt) Kr (sb 0))))))))
  ·have hd:=QE h1
   refine TC.exit (Yc (Yc (Z1 ?_)))
   exact TE.cut () (hI.trans (by rw[hd];exact rfl)) Kr (sb 0)
 ·intro _ hJ
  exact YZ (Zc 1 [] [(4,.i (-1))] {} (Zb rfl (TC.ret (TE.ret [] (.i (-1)) {} (by unfold Jp;refine eS (fun z=>(.i z:Value)) ?_;exact Q2 (hR.symm.trans hJ) (rfl))))))
def XI (s:List Zm) (c0:Zm) (c1:Int):Bool :=
 let r1:=Jp s c0 c1
 decide (r1≥0)
theorem Wi (A_s:Option Addr) (c_s:Nat) (s:List Zm) (xl:Addr) (c0:Zm) (kh:Addr) (c1:Int) (w:World) (h_s:Rd w 6 A_s (s.map Zm.c)) (py:s.length≤c_s) (w5:Rd w 6 (some xl) [Zm.c c0]) (fm:Rd w 1 (some kh) [ic c1]):Calls Tryz.prog 40 #[.slice A_s s.length c_s,.func (.func 41) #[] #[.pointer (some xl),.pointer (some kh)]] w (Ret w (.bool (XI s c0 c1))):=by
 have s_s:=h_s.short;rw[aF] at s_s
 exact Zo (vs:=[.slice A_s s.length c_s,.func (.func 41) #[] #[.pointer (some xl),.pointer (some kh)]]) (w:=w) Tryz.func40 rfl Tryz.ntmps40 rfl (Ze (Zc 1 [] [(4,.b false)] {} (Zv (Zc 2 [] [(5,.slice A_s s.length c_s),(6,.func (.func 41) #[] #[.pointer (some xl),.pointer (some kh)])] {} (TL.c 7 (Jp s c0 c1) (fun r1=>.i r1) (fun w hM=>HE A_s c_s s xl c0 kh c1 w (h_s.sat hM) py (w5.sat hM) (fm.sat hM)) {} (fun r1 hr1=>Zc 5 [] [(4,.b (decide (r1≥0)))] {} (Zb rfl (TC.ret (TE.ret [] (.b (decide (r1≥0))) {} (by unfold XI;refine eS (fun z=>(.b z:Value)) ?_;subst hr1;exact rfl))))))))))
end Go.Sky
end
section
namespace Go.Sky
open Go Go.Eng Go.Proofs
def Xs (a:Zm) (b_:Zm):Int :=
 let r1:=cmp_Compare_int a.Time b_.Time
 let r2:=cmp_Compare_int a.Error b_.Error
 let r3:=cmp_Compare_int a.At.X b_.At.X
 let r4:=cmp_Compare_int a.At.Y b_.At.Y
 let r5:=cmp_Compare_int a.Height b_.Height
 let r6:=cmp_Compare_int a.Code b_.Code
 let r7:=KP ([r1,r2,r3,r4,r5,r6])
 r7
theorem Dj (a:Zm) (b_:Zm) (w:World):Calls Tryz.prog 39 #[Zm.v a,Zm.v b_] w (Ret w (.int .i64 (Xs a b_))):=by
 exact Zo (vs:=[Zm.v a,Zm.v b_]) (w:=w) Tryz.func39 rfl Tryz.ntmps39 rfl (Ze (ZH 2 (fun b1=>.p0 b1) (fun b1=>Bk b1 (Zm.c a) 46) (fun b1=>{}) (fun b1=>ZH 3 (fun b2=>.p0 b2) (fun b2=>Bk b2 (Zm.c b_) 46) (fun b2=>{}) (fun b2=>Zc 3 [] [(4,.i 0)] {} (Zz (KW 34 Kr Kr (JA 4 [1,0] [(6,.i a.Time),(8,.i b_.Time)] {} (TQ.c 9 (cmp_Compare_int a.Time b_.Time) (fun r1=>.i r1) (fun w _=>Xz a.Time b_.Time w) rfl {} (fun r1 hr1=>JA 9 [1,0] [(11,.i a.Error),(13,.i b_.Error)] {} (TQ.c 14 (cmp_Compare_int a.Error b_.Error) (fun r2=>.i r2) (fun w _=>Xz a.Error b_.Error w) rfl {} (fun r2 hr2=>JA 16 [1,0] [(17,.i a.At.X),(20,.i b_.At.X)] {} (TQ.c 21 (cmp_Compare_int a.At.X b_.At.X) (fun r3=>.i r3) (fun w _=>Xz a.At.X b_.At.X w) rfl {} (fun r3 hr3=>JA 23 [1,0] [(24,.i a.At.Y),(27,.i b_.At.Y)] {} (TQ.c 28 (cmp_Compare_int a.At.Y b_.At.Y) (fun r4=>.i r4) (fun w _=>Xz a.At.Y b_.At.Y w) rfl {} (fun r4 hr4=>JA 28 [1,0] [(30,.i a.Height),(32,.i b_.Height)] {} (TQ.c 33 (cmp_Compare_int a.Height b_.Height) (fun r5=>.i r5) (fun w _=>Xz a.Height b_.Height w) rfl {} (fun r5 hr5=>JA 33 [1,0] [(35,.i a.Code),(37,.i b_.Code)] {} (TQ.c 38 (cmp_Compare_int a.Code b_.Code) (fun r6=>.i r6) (fun w _=>Xz a.Code b_.Code w) rfl {} (fun r6 hr6=>TQ.tail rfl (ZH 39 (fun b3=>.slice (Pa b3) 6 6) (fun b3=>Bk b3 #[.i r1,.i r2,.i r3,.i r4,.i r5,.i r6] 3) (fun b3=>{}) (fun b3=>TL.c 40 (KP ([r1,r2,r3,r4,r5,r6])) (fun r7=>.i r7) (fun w hM=>WR (Pa b3) 6 ([r1,r2,r3,r4,r5,r6]) w (Rd.lit hM 0 _ rfl Kr Kr Kr) (aR _)) {} (fun r7 hr7=>Zc 37 [] [(4,.i r7)] {} (Zb rfl (TC.ret (TE.ret [] (.i r7) {} (by unfold Xs;refine eS (fun z=>(.i z:Value)) ?_;subst hr1 hr2 hr3 hr4 hr5 hr6 hr7;exact rfl))))))))))))))))))))))))))
end Go.Sky
end
section
namespace Go.Eng
open Go.Sort Go.Proofs Go.Shelf
theorem flat_get {sz:Nat}:∀ (rows:List (Array Value)) (i j:Nat) (r:Array Value),(∀ r∈rows,r.size=sz)→rows[i]?=some r→j<sz→(flat rows)[i*sz+j]?=r[j]?
 | [],i,j,r,_,hi,_=>by simp at hi
 | r0::rows,0,j,r,ja,hi,hj=>by
  have h0:=ja r0 (by simp)
  simp only[cG,aD] at hi
  subst hi
  rw[JR,eF,bB,cA (by rw[aX,h0];exact hj),aZ]
 | r0::rows,i+1,j,r,ja,hi,hj=>by
  have h0:=ja r0 (by simp)
  rw[cH] at hi
  have e:(i+1)*sz+j-sz=i*sz+j:=by rw[cP];omega
  rw[JR,dB (by rw[aX,h0,cP];omega),aX,h0,e]
  exact flat_get rows i j r (fun r hr=>ja r (by simp[hr])) hi hj
section
variable {α:Type} [Inhabited α]
theorem Dk {c:α→Array Value} {k:Nat} (hk:∀ x,(c x).size=k) (l:List α):(flatK (fun x=>(c x).toList) k l.toArray).toList=flat (l.map c):=by
 have ja:∀ r∈l.map c,r.size=k:=by
  intro r hr
  obtain⟨x,_,rfl⟩:=bT.1 hr
  exact hk x
 have hl:=Qr (l.map c) ja
 rw[aF] at hl
 apply fA
 intro t
 by_cases ht:t<l.length*k
 ·have hk0:0<k:=by
   rcases bM k with h|h
   ·rw[h,gH] at ht;omega
   ·exact h
  have hi:t/k<l.length:=(dG hk0).2 ht
  have hj:t%k<k:=eN _ hk0
  have hg:=flat_get (l.map c) (t/k) (t%k) (c (l[t/k]'hi)) ja (by rw[cK,aS hi];rfl) hj
  have et:t/k*k+t%k=t:=by rw[cS];exact gI t k
  rw[et] at hg
  rw[hg]
  have hs:t<(flatK (fun x=>(c x).toList) k l.toArray).size:=by rw[size_flatK];simpa using ht
  rw[aZ,bW hs]
  have hx:=get_flatK (fun x=>(c x).toList) k l.toArray t (by simpa using ht)
  rw[getElem!_pos (flatK (fun x=>(c x).toList) k l.toArray) t hs] at hx
  rw[hx]
  have hsz:t%k<(c (l[t/k]'hi)).size:=by rw[hk];exact hj
  rw[bW hsz]
  have e1:(l.toArray)[t/k]! = l[t/k]'hi:=by
   rw[getElem!_pos l.toArray (t/k) (by simpa using hi)];simp
  rw[e1,getElem!_pos ((c (l[t/k]'hi)).toList) (t%k) (by simpa using hsz)]
  simp
 ·rw[dF (by rw[aX,size_flatK];simpa using Nat.le_of_not_lt ht),dF (by rw[hl];omega)]
theorem PO {w:World} {g:Nat} {cur:Array Value} {e:TypeId} {vs:Array Value} (hb:w.heap[g]?=some (.cells cur e (0,0))) (ht:cur.toList.take vs.size=vs.toList):Holds id w g 0 vs:=by
 intro j hj
 refine⟨?_,by simp[World.frozen?,hb]⟩
 have h1:(cur.toList.take vs.size)[j]?=vs.toList[j]?:=by rw[ht]
 rw[eC hj,aZ,aZ] at h1
 simp only[World.cell?,hb,bB]
 simp only[Option.isSome_none,eY,if_false]
 rw[h1]
 simp[hj]
theorem E0 {w:World} {g n:Nat} {os:Array Obj} {cur:Array Value} {e:TypeId} {fr:Nat×Nat} (d:Array Value) (hb:w.heap[g]?=some (.cells cur e fr)) :
  (grow (putRow id (Sort.ahead w n) g 0 d) os).heap[g]?=some (.cells (putCells id 0 d cur) e fr):=by
 have hg:g<w.heap.size:=(bY.1 hb).1
 rw[heap_grow_old _ _ (by simpa using hg)]
 simp[putRow,mapBlock,Sort.ahead,Array.getElem?_modify,hb,onCells]
theorem PP {w:World} {g n:Nat} {os:Array Obj} (d:Array Value):w.grownBy (grow (putRow id (Sort.ahead w n) g 0 d) os) (some g):=by
 refine⟨rfl,rfl,rfl,by simp,fun k hk hne=>?_⟩
 rw[heap_grow_old _ _ (by simpa using hk)]
 have:g≠k:=fun e=>hne (by rw[e])
 simp[putRow,mapBlock,Sort.ahead,Array.getElem?_modify,this]
theorem E1 (cur:Array Value) (vs:Array Value) (h:vs.size≤cur.size):(putCells id 0 vs cur).toList.take vs.size=vs.toList:=by
 apply fA
 intro j
 by_cases hj:j<vs.size
 ·rw[eC hj,aZ,aZ]
  simp[putCells,hj,show j<cur.size by omega]
 ·rw[List.getElem?_take_eq_none (by omega),dF (by simp;omega)]
theorem Dl {w w':World} (h:Below w.heap.size w w'):∃ q os',w'=grow (w.drewN q) os':=by
 refine⟨w'.drawn-w.drawn,w'.heap.extract w.heap.size w'.heap.size,?_⟩
 have hd:w.drawn+(w'.drawn-w.drawn)=w'.drawn:=by have:=h.drawn;omega
 have hh:w.heap++w'.heap.extract w.heap.size w'.heap.size=w'.heap:=by
  apply Array.ext_getElem?
  intro i
  by_cases hi:i<w.heap.size
  ·rw[dT hi];exact(h.block i hi).symm
  ·rw[Array.getElem?_append_right (by omega)]
   by_cases hi2:i<w'.heap.size
   ·rw[Array.getElem?_extract]
    simp only[show i-w.heap.size<min w'.heap.size w'.heap.size-w.heap.size by omega,if_true]
    congr 1;omega
   ·rw[dA (by simp;omega),dA (by omega)]
 obtain⟨h1,t1,d1,o1,u1⟩:=w
 obtain⟨h2,t2,d2,o2,u2⟩:=w'
 have a:=h.os
 have b:=h.tape
 have c:=h.output
 simp only at a b c hd hh
 subst a b c
 show World.mk h2 t2 d2 o2 u2=World.mk _ _ _ _ _
 congr 1
 ·exact hh.symm
 ·exact hd.symm
theorem PQ {P:Program} {ρ:Ren} (L:SlLaysF0.n6 P ρ) {k:Nat} {c:α→Array Value} (aE:∀ w,(isAgg (ρ.t 24)).run P w=.ok true w) (zE:∀ w,(Go.sizeOf (ρ.t 24)).run P w=.ok k w) (hk:∀ x,(c x).size=k) (h1:∀ x,∀ v∈(c x).toList,v.oneCell'=true)
  (cf:α→α→Int) (hO:SWO (ltOf cf)) (g:Nat) (eg:∀ args w,(callFunc g args).run P w=.ok (.enter g args) w) (bw:∀ x y W,Calls P g #[.agg (c x),.agg (c y)] W (Ret W (.int .i64 (cf x y)))) (hT:∀ x y,ltOf cf x y=false→ltOf cf y x=false→x=y) (A:Option Addr) (cap e:Nat) (l:List α) (w:World)
  (hM:Sat ⟨w,XS [.inr (Own A cap e k (l.map c))]⟩ [.inr (Own A cap e k (l.map c))] w) :
  Calls P (ρ.f 6) #[.slice A l.length cap,.func (.func g) #[] #[]] w (JD (Γ:=List α) ⟨w,XS [.inr (Own A cap e k (l.map c))]⟩ (fun _=>.tuple #[])
   (fun r=>[.inr (XG (r.length=l.length∧r=l.mergeSort (fun x y=>!ltOf cf y x))),.inr (Own A cap e k (r.map c))])):=by
 rcases hM.own_at 0 rfl with ⟨hc,hr⟩|⟨b,cur,h⟩
 ·have hl:l=[]:=by simpa using hr
  subst hl
  refine(AnyF.slices_SortFunc_none L A cap _ w).mono ?_
  rintro en w' ⟨rfl,rfl⟩
  exact⟨[],rfl,hM.fact (by simp)⟩
 ·have hl:(l.map c).length=l.length:=by simp
  have hat:=h.at_;subst hat
  have hh:=h.heap
  have l8:=Dk hk l
  have hvs:(flatK (fun x=>(c x).toList) k l.toArray).size=l.length*k:=by rw[size_flatK];simp
  have ht:cur.toList.take (flatK (fun x=>(c x).toList) k l.toArray).size=(flatK (fun x=>(c x).toList) k l.toArray).toList:=by
   rw[l8,hvs]
   have:=h.holds
   rwa [hl] at this
  have hcl:CmpLays P g #[] (fun x=>(c x).toList) k cf b 0 l.toArray.size w:=by
   intro m os dk _ x y
   refine(bw x y _).mono ?_
   rintro en w' ⟨he,hb⟩
   exact⟨he,Dl hb⟩
  have bz:l.toArray.size<4611686018427387904:=by have:=h.short;rw[hl] at this;simpa using this
  have l9:=AnyQ.slices_SortFunc_total L k aE zE (fun x=>(c x).toList) (fun x=>by rw[aX,hk]) h1 cf hO g #[] b 0 cap l.toArray w eg hcl (PO hh ht) (Us hh) bz hT
  rw[dN] at l9
  refine l9.mono ?_
  rintro en w' ⟨rfl,n,os,rfl⟩
  obtain⟨d',hd'⟩:∃ d',d'=(l.toArray.toList.mergeSort fun x y=>!(ltOf cf) y x).toArray:=⟨_,rfl⟩
  rw[← hd']
  have hds:d'.toList=l.mergeSort fun x y=>!(ltOf cf) y x:=by rw[hd']
  have hdl:d'.toList.length=l.length:=by rw[hds,List.length_mergeSort]
  have fo:=Dk hk d'.toList
  rw[Array.toArray_toList] at fo
  have na:(flatK (fun x=>(c x).toList) k d').size=l.length*k:=by rw[size_flatK,← hdl,aX]
  have hle:=h.le;rw[hl] at hle
  have hsz:=h.size
  have hG:=PP (w:=w) (g:=b) (n:=n) (os:=os) (flatK (fun x=>(c x).toList) k d')
  have hB:=E0 (w:=w) (g:=b) (n:=n) (os:=os) (cur:=cur) (e:=e) (fr:=(0,0)) (flatK (fun x=>(c x).toList) k d') hh
  refine⟨d'.toList,rfl,Sat.fact ?_ ⟨hdl,hds⟩⟩
  ·refine hM.step (j:=0) (e':=.inr (Own (some ⟨b,0,none⟩) cap e k (d'.toList.map c))) rfl ⟨hG.os,hG.tape,hG.output,hG.size,fun q hq hf=>hG.block q hq (fun he=>hf ?_),gG _ _⟩ ?_ (fun b hb=>.inl hb)
   ·simp only[aD] at he
    exact⟨h.pos,_,rfl,he.symm⟩
   ·refine .inr ⟨b,putCells id 0 (flatK (fun x=>(c x).toList) k d') cur,rfl,h.pos,hB,by rw[aF,hdl];exact hle,h.max,by simp[putCells,hsz],?_,?_,?_⟩
    ·rw[aF,hdl,← na,E1 cur _ (by rw[na,hsz];exact bO _ hle),fo]
    ·intro r hr
     obtain⟨x,_,rfl⟩:=bT.1 hr
     exact hk x
    ·rw[aF,hdl];have:=h.short;rwa [hl] at this
end
end Go.Eng
end
section
namespace Go.Proofs
open Go.Shelf
def Tryz.laysSpot_ren:Go.Shelf.Ren:=⟨fun|6=>38|15=>74|14=>73|28=>120|29=>108|20=>112|21=>113|22=>114|23=>115|24=>116|25=>117|26=>118|27=>119|46=>144|47=>145|48=>146|49=>147|50=>148|57=>156|n=>n,fun|22=>52|24=>46|25=>97|3=>3|39=>146|0=>0|53=>181|55=>82|4=>4|46=>174|45=>173|50=>178|5=>5|9=>9|66=>200|70=>204|76=>207|77=>75|n=>n,fun|n=>n⟩
theorem Tryz.laysSpot:SlLaysF0.n6 Tryz.prog Tryz.laysSpot_ren:={
 mixed:=by kernel_rfl,
 f6:=⟨Tryz.f38.name,by decide,Tryz.func38.trans (congrArg some (by kernel_rfl))⟩,
 f14:=⟨Tryz.f73.name,by decide,Tryz.func73.trans (congrArg some (by kernel_rfl))⟩,
 f15:=Tryz.func74.trans (congrArg some (by kernel_rfl)),
 f20:=⟨Tryz.f112.name,by decide,Tryz.func112.trans (congrArg some (by kernel_rfl))⟩,
 f21:=⟨Tryz.f113.name,by decide,Tryz.func113.trans (congrArg some (by kernel_rfl))⟩,
 f22:=⟨Tryz.f114.name,by decide,Tryz.func114.trans (congrArg some (by kernel_rfl))⟩,
 f23:=⟨Tryz.f115.name,by decide,Tryz.func115.trans (congrArg some (by kernel_rfl))⟩,
 f24:=⟨Tryz.f116.name,by decide,Tryz.func116.trans (congrArg some (by kernel_rfl))⟩,
 f25:=⟨Tryz.f117.name,by decide,Tryz.func117.trans (congrArg some (by kernel_rfl))⟩,
 f26:=⟨Tryz.f118.name,by decide,Tryz.func118.trans (congrArg some (by kernel_rfl))⟩,
 f27:=⟨Tryz.f119.name,by decide,Tryz.func119.trans (congrArg some (by kernel_rfl))⟩,
 f28:=Tryz.func120.trans (congrArg some (by kernel_rfl)),
 f29:=Tryz.func108.trans (congrArg some (by kernel_rfl)),
 f46:=⟨Tryz.f144.name,by decide,Tryz.func144.trans (congrArg some (by kernel_rfl))⟩,
 f47:=Tryz.func145.trans (congrArg some (by kernel_rfl)),
 f48:=Tryz.func146.trans (congrArg some (by kernel_rfl)),
 f49:=⟨Tryz.f147.name,by decide,Tryz.func147.trans (congrArg some (by kernel_rfl))⟩,
 f50:=⟨Tryz.f148.name,by decide,Tryz.func148.trans (congrArg some (by kernel_rfl))⟩,
 f57:=⟨Tryz.f156.name,by decide,Tryz.func156.trans (congrArg some (by kernel_rfl))⟩,
 t0:=Tryz.underlying0,
 a0:=Tryz.isAgg0,
 z0:=Tryz.sizeOf0,
 v0:=Tryz.zeroValue0,
 t3:=Tryz.underlying3,
 a3:=Tryz.isAgg3,
 z3:=Tryz.sizeOf3,
 v3:=Tryz.zeroValue3,
 t4:=Tryz.underlying4,
 a4:=Tryz.isAgg4,
 z4:=Tryz.sizeOf4,
 v4:=Tryz.zeroValue4,
 t5:=Tryz.underlying5,
 a5:=Tryz.isAgg5,
 z5:=Tryz.sizeOf5,
 v5:=Tryz.zeroValue5,
 t9:=Tryz.underlying9,
 a9:=Tryz.isAgg9,
 z9:=Tryz.sizeOf9,
 v9:=Tryz.zeroValue9,
 t22:=Tryz.underlying52,
 a22:=Tryz.isAgg52,
 z22:=Tryz.sizeOf52,
 v22:=Tryz.zeroValue52,
 t25:=Tryz.underlying97,
 a25:=Tryz.isAgg97,
 z25:=Tryz.sizeOf97,
 v25:=Tryz.zeroValue97,
 t39:=Tryz.underlying146,
 a39:=Tryz.isAgg146,
 z39:=Tryz.sizeOf146,
 v39:=Tryz.zeroValue146,
 t45:=Tryz.underlying173,
 a45:=Tryz.isAgg173,
 z45:=Tryz.sizeOf173,
 v45:=Tryz.zeroValue173,
 t46:=Tryz.underlying174,
 a46:=Tryz.isAgg174,
 z46:=Tryz.sizeOf174,
 v46:=Tryz.zeroValue174,
 t50:=Tryz.underlying178,
 a50:=Tryz.isAgg178,
 z50:=Tryz.sizeOf178,
 v50:=Tryz.zeroValue178,
 t53:=Tryz.underlying181,
 a53:=Tryz.isAgg181,
 z53:=Tryz.sizeOf181,
 v53:=Tryz.zeroValue181,
 t55:=Tryz.underlying82,
 a55:=Tryz.isAgg82,
 z55:=Tryz.sizeOf82,
 v55:=Tryz.zeroValue82,
 t66:=Tryz.underlying200,
 a66:=Tryz.isAgg200,
 z66:=Tryz.sizeOf200,
 v66:=Tryz.zeroValue200,
 t70:=Tryz.underlying204,
 a70:=Tryz.isAgg204,
 z70:=Tryz.sizeOf204,
 v70:=Tryz.zeroValue204,
 t76:=Tryz.underlying207,
 a76:=Tryz.isAgg207,
 z76:=Tryz.sizeOf207,
 v76:=Tryz.zeroValue207,
 t77:=Tryz.underlying75,
 a77:=Tryz.isAgg75,
 z77:=Tryz.sizeOf75,
 v77:=Tryz.zeroValue75 }
end Go.Proofs
end
section
namespace Go.Srt
open Go Go.Eng Go.Sky
def lx:List Int→List Int→Bool
 | x::xs,y::ys=>decide (x<y)||(decide (x=y)&&lx xs ys)
 | _,_=>false
theorem N8:∀ xs ys:List Int,lx xs ys=true→lx ys xs=false
 | [],ys,h=>by cases ys <;> cases h
 | x::xs,[],h=>by cases h
 | x::xs,y::ys,h=>by
  simp only[lx,fP,aW,decide_eq_true_eq] at h
  simp only[lx,bR,fH,decide_eq_false_iff_not]
  rcases h with h|⟨h1,h2⟩
  ·exact⟨by omega,.inl (by omega)⟩
  ·exact⟨by omega,.inr (N8 xs ys h2)⟩
theorem PR:∀ xs ys zs:List Int,xs.length=ys.length→ys.length=zs.length→lx xs ys=false→lx ys zs=false→lx xs zs=false
 | [],_,zs,_,_,_,_=>by cases zs <;> rfl
 | x::xs,[],zs,h,_,_,_=>by cases h
 | x::xs,y::ys,[],_,h,_,_=>by cases h
 | x::xs,y::ys,w::zs,h1,h2,h3,h4=>by
  simp only[lx,bR,fH,decide_eq_false_iff_not] at h3 h4 ⊢
  refine⟨by omega,?_⟩
  by_cases e:x=w
  ·have e1:x=y:=by omega
   have e2:y=w:=by omega
   exact .inr (PR xs ys zs (by simpa using h1) (by simpa using h2) (h3.2.resolve_left (fun q=>q e1)) (h4.2.resolve_left (fun q=>q e2)))
  ·exact .inl e
theorem PS:∀ xs ys:List Int,xs.length=ys.length→lx xs ys=false→lx ys xs=false→xs=ys
 | [],[],_,_,_=>rfl
 | [],y::ys,h,_,_=>by cases h
 | x::xs,[],h,_,_=>by cases h
 | x::xs,y::ys,h1,h2,h3=>by
  simp only[lx,bR,fH,decide_eq_false_iff_not] at h2 h3
  have e:x=y:=by omega
  rw[e,PS xs ys (by simpa using h1) (h2.2.resolve_left (fun q=>q e)) (h3.2.resolve_left (fun q=>q e.symm))]
theorem Ln (x y:Int):cmp_Compare_int x y=if x<y then -1 else if x>y then 1 else 0:=by
 unfold cmp_Compare_int cmp_isNaN_int
 simp only[bne_self_eq_false,cond_false]
 by_cases h:x<y
 ·rw[decide_eq_true h,cond_true,if_pos h]
 ·rw[decide_eq_false h,cond_false,if_neg h]
  by_cases h2:x>y
  ·rw[decide_eq_true h2,cond_true,if_pos h2]
  ·rw[decide_eq_false h2,cond_false,if_neg h2]
theorem Ib:∀ (xs ys:List Int) (k:Nat),xs.length=ys.length→decide (Sum.elim (fun _=>(0:Int)) (fun r=>r) (JU (List.zipWith cmp_Compare_int xs ys) k)<0)=lx xs ys
 | [],[],k,_=>rfl
 | [],y::ys,k,h=>by cases h
 | x::xs,[],k,h=>by cases h
 | x::xs,y::ys,k,h=>by
  have ih:=Ib xs ys (k+1) (by simpa using h)
  rw[List.zipWith_cons_cons]
  unfold JU lx
  rw[Ln]
  by_cases h1:x<y
  ·rw[if_pos h1,decide_eq_true h1];rfl
  ·rw[if_neg h1,decide_eq_false h1,Bool.false_or]
   by_cases h2:x>y
   ·rw[if_pos h2,decide_eq_false (by omega:¬ x=y)];rfl
   ·rw[if_neg h2,decide_eq_true (by omega:x=y),Bool.true_and];exact ih
end Go.Srt
namespace Go.Srt
open Go Go.Eng Go.Sky Go.Proofs Go.Sort
def DW (p:Zm):List Int:=[p.Time,p.Error,p.At.X,p.At.Y,p.Height,p.Code]
theorem N9 (x y:Zm):ltOf Xs x y=lx (DW x) (DW y):=Ib (DW x) (DW y) 0 rfl
theorem Zan:SWO (ltOf Xs):=by
 have irr:∀ x,ltOf Xs x x=false:=fun x=>by
  cases h:ltOf Xs x x with
  | false=>rfl
  | true=>rw[N9] at h;rw[N8 _ _ h] at h;cases h
 have ntr:∀ x y z,ltOf Xs x y=false→ltOf Xs y z=false→ltOf Xs x z=false:=fun x y z h1 h2=>by
  rw[N9] at h1 h2 ⊢;exact PR (DW x) (DW y) (DW z) rfl rfl h1 h2
 refine⟨irr,fun x y z h1 h2=>?_,ntr⟩
 cases h:ltOf Xs x z with
 | true=>rfl
 | false =>
  exfalso
  have h3:ltOf Xs z y=false:=by rw[N9] at h2 ⊢;exact N8 _ _ h2
  rw[ntr x z y h h3] at h1;cases h1
theorem Zao (x y:Zm) (h1:ltOf Xs x y=false) (h2:ltOf Xs y x=false):x=y:=by
 rw[N9] at h1 h2
 have:=PS (DW x) (DW y) rfl h1 h2
 obtain⟨xt,⟨xx,xy⟩,xh,xc,xe⟩:=x
 obtain⟨yt,⟨yx,yy⟩,yh,yc,ye⟩:=y
 simp[DW] at this
 simp[this]
instance:Inhabited Zm:=⟨Zm.zero⟩
def Gs (l:List Zm):List Zm:=l.mergeSort (fun x y=>!ltOf Xs y x)
theorem Zap (x y:Zm) (W:World):Calls Tryz.prog 39 #[.agg (Zm.c x),.agg (Zm.c y)] W (Ret W (.int .i64 (Xs x y))):=Dj x y W
theorem RE (A:Option Addr) (cap e:Nat) (l:List Zm) (w:World) (hM:Sat ⟨w,XS [.inr (Own A cap e 6 (l.map Zm.c))]⟩ [.inr (Own A cap e 6 (l.map Zm.c))] w) :
  Calls Tryz.prog 38 #[.slice A l.length cap,.func (.func 39) #[] #[]] w (JD (Γ:=List Zm) ⟨w,XS [.inr (Own A cap e 6 (l.map Zm.c))]⟩ (fun _=>.tuple #[])
   (fun r=>[.inr (XG (r.length=l.length∧r=Gs l)),.inr (Own A cap e 6 (r.map Zm.c))])) :=
 PQ (P:=Tryz.prog) (c:=Zm.c) (k:=6) Tryz.laysSpot (fun _=>by kernel_rfl) (fun _=>by kernel_rfl) (fun _=>rfl) (fun x v hv=>by simp[Zm.c] at hv;rcases hv with rfl|rfl|rfl|rfl|rfl|rfl <;> rfl) Xs Zan 39 (fun _ _=>by kernel_rfl) Zap Zao A cap e l w hM
end Go.Srt
end
section
namespace Go.Sky
open Go Go.Eng Go.Proofs
open Go.Srt
theorem PT (A_x:Option Addr) (c_x:Nat) (x:List Zm) (w:World) (hM:Sat ⟨w,XS [.inr (Own A_x c_x 46 6 (x.map Zm.c))]⟩ [.inr (Own A_x c_x 46 6 (x.map Zm.c))] w):Calls Tryz.prog 38 #[.slice A_x x.length c_x,.func (.func 39) #[] #[]] w (JD (Γ:=(List Zm)) ⟨w,XS [.inr (Own A_x c_x 46 6 (x.map Zm.c))]⟩ (fun _=>.tuple #[]) (fun g=>[.inr (XG (g.length=x.length∧g=Gs x)),.inr (Own A_x c_x 46 6 (g.map Zm.c))])):=by
 exact RE A_x c_x _ x w hM
def JX:List Zm→Nat→((Unit) ⊕ ((List Zm)×Int))
 | [],_=>.inl ()
 | x::xs,k=>let r1:=ZD x
  cond (r1 != 0) (
   .inr ([],r1)) (
   JX xs (k+1))
def Qg (qd:Int):List Zm→Nat→(List Zm)→(List Zm)
 | [],_,out=>out
 | x_2::xs,k_2,out=>let r5:=XI out x_2 qd
  cond (!r5) (
   Qg qd xs (k_2+1) (out++([x_2]))) (
   Qg qd xs (k_2+1) out)
def YA (l:List Zm) (qd:Int):List Zm×Int :=
 cond (decide ((l.length:Int)>128)) (
  ([],2)) (
  Sum.elim (fun _ =>
   let r2:=Vu qd
   cond r2 (
    ([],4)) (
    let r3:=YO l
    let r4:=Gs r3
    Xq (Qg qd r4 0 ([]:List Zm)) (fun ql =>
     (ql,0)))) (fun r=>r) (JX l 0))
set_option maxHeartbeats 4000000 in
theorem Hi (A_l:Option Addr) (c_l:Nat) (l:List Zm) (qd:Int) (w:World) (h_l:Rd w 6 A_l (l.map Zm.c)) (ui:l.length≤c_l):Calls Tryz.prog 14 #[.slice A_l l.length c_l,.int .i64 qd] w (JD (Γ:=(Option Addr×Nat)) (cx w) (fun g=>.tuple #[.slice g.1 ((YA l qd).1.length) g.2,.int .i64 ((YA l qd).2)]) (fun g=>[.inr (Own g.1 g.2 46 6 (((YA l qd).1).map Zm.c))])):=by
 have s_l:=h_l.short;rw[aF] at s_l
 refine Zo (vs:=[.slice A_l l.length c_l,.i qd]) (w:=w) Tryz.func14 rfl Tryz.ntmps14 rfl (Ze (ZH 3 (fun b1=>.p0 b1) (fun b1=>Bk b1 #[.i qd] 3) (fun b1=>{}) (fun b1=>Zc 3 [] [(4,.slice none 0 0),(5,.i 0)] {} (Zz (Ze (Zc 3 [] [(15,.b (decide ((l.length:Int)>128)))] {} (Zb rfl (TC.cond (decide ((l.length:Int)>128)) rfl Kr (fun h1=>?_) (fun h1=>?_)))))))))
 ·refine Ze (Zc 2 [] [(4,.slice none 0 0),(5,.i 2)] {} (Zb rfl (TC.ret (Zq ?_))))
  have e:YA l qd=([],2):=by unfold YA;exact Zk h1 (rfl)
  refine Yp [Ow none 0 46 6 (([]:List Zm).map Zm.c),Bk b1 #[.i qd] 3] (fun _ hM=>hM.emptyrow none 46 6) ?_
  rw[e]
  exact ZN (.inl rfl) (none,0) [] (.tuple #[.slice none 0 0,.i 2]) {} rfl (fun _ hM=>hM.sub (sb 1))
 ·have j4:=(Zt h1)
  refine Yg (TC.seq (Ze (Zc 3 [] [(16,.slice A_l l.length c_l),(17,.i (l.length:Int)),(18,.i 0)] {} (Zb rfl ?_))))
  obtain⟨R2,hR⟩:∃ R,R=JX l 0:=⟨_,rfl⟩
  refine TC.cut (S:=Unit) (fun (_:Unit)=>[(0,.slice A_l l.length c_l),(3,.p0 b1)]) (fun (_:Unit)=>[Bk b1 #[.i qd] 3]) (fun (_:Unit)=>R2=.inl ()) ?_ ?_
  ·refine TC.block (XB (X:=Nat) (fun k=>[(0,.slice A_l l.length c_l),(3,.p0 b1),(16,.slice A_l l.length c_l),(17,.i (l.length:Int)),(18,.i (k:Int))]) (fun k=>[Bk b1 #[.i qd] 3]) (fun k=>l.length-k) (fun k=>k≤l.length∧R2=JX (l.drop k) k) ?_ 0 ⟨aN _,hR⟩ Kr (sb 1))
   rintro k ⟨hk,hI⟩
   refine Ze (Zc 1 [] [(19,.b (decide ((k:Int)<(l.length:Int))))] {} (Zz (TC.cond (decide ((k:Int)<(l.length:Int))) rfl Kr (fun h2=>?_) (fun h2=>?_))))
   ·have hlt:=ltN h2
    obtain⟨x,hx⟩:=elN hlt
    have hd:=drop_at hx
    refine Yg (TC.seq (TC.block (Ze (TL.v (sV (Instr.indexAt 52 (.slice A_l l.length c_l) (.i (k:Int)))) 20 (.pointer (some (Ix A_l (k*6)))) (fun w hM=>Zy (h_l.sat hM) (by simp) Kr (by (try have e3_:r3.length=l.length:=(by rw[← hr3];rfl));exact sd) (by (try have e3_:r3.length=l.length:=(by rw[← hr3];rfl));exact sd)) {} (TL.v (sV (Instr.loadAt 46 (.pointer (some (Ix A_l (k*6)))))) 21 (Zm.v x) (fun w hM=>Yd (n:=6) (off:=0) (i:=k) (Zm.v x) (h_l.sat hM) (ZR hx) Kr Kr Kr) {} (ZH 7 (fun b2=>.p0 b2) (fun b2=>Bk b2 (Zm.c Zm.zero) 46) (fun b2=>{}) (fun b2=>Ym 0 (Bk b2 (Zm.c x) 46) (fun _=>{}) (Zv (Zc 1 [0] [(22,Zm.v x)] {} (TL.c 23 (ZD x) (fun r1=>.i r1) (fun w _=>Qc x w) {} (fun r1 hr1=>Zc 3 [] [(8,.i r1)] {} (Zv (Zc 2 [] [(25,.b (r1 != 0))] {} (Zb rfl (TC.cond (r1 != 0) rfl Kr (fun h3=>?_) (fun h3=>?_))))))))))))))))
    ·refine Ze (Zc 3 [] [(4,.slice none 0 0),(5,.i r1)] {} (Zb rfl (TC.ret (ZY (Zq (Zq (ZY (Zq (Zq ?_)))))))))
     have e:YA l qd=([],r1):=by subst hr1;unfold YA;exact Zd h1 (Q4 (hR.symm.trans (hI.trans (by rw[hd];exact Zk h3 (rfl)))) rfl)
     refine Yp [Ow none 0 46 6 (([]:List Zm).map Zm.c),Bk b2 (Zm.c x) 46,Bk b1 #[.i qd] 3] (fun _ hM=>hM.emptyrow none 46 6) ?_
     rw[e]
     exact ZN (.inl rfl) (none,0) [] (.tuple #[.slice none 0 0,.i r1]) {} rfl (fun _ hM=>hM.sub (sb 1))
    ·have wm:=(Jb h3)
     exact TC.skip (Yr (Z4 (TC.region (Zc 2 [] [(18,.i (w64 ((k:Int)+1)))] {} (Z2 rfl (TE.rw 18 (.i (w64 ((k:Int)+1))) (.i ((k+1:Nat):Int)) Kr (ZT k (by (try have e3_:r3.length=l.length:=(by rw[← hr3];rfl));omega)) (Z7 (x:=k) (k+1) ⟨by omega,hI.trans (by subst hr1;rw[hd];exact Zd h3 (rfl))⟩ (mN hlt) Kr (sb 2))))))))
   ·have hd:=QE h2
    refine TC.exit (Yc (Yc (Z1 ?_)))
    exact TE.cut () (hI.trans (by rw[hd];exact rfl)) Kr (sb 1)
  ·intro _ hJ
   refine Z4 (TC.seq (Ze (Zc 1 [0] [(28,.i qd)] {} (TL.c 29 (Vu qd) (fun r2=>.b r2) (fun w _=>Hh qd w) {} (fun r2 hr2=>Zb rfl (TC.cond r2 rfl Kr (fun h4=>?_) (fun h4=>?_)))))))
   ·refine Ze (Zc 2 [] [(4,.slice none 0 0),(5,.i 4)] {} (Zb rfl (TC.ret (Zq ?_))))
    have e:YA l qd=([],4):=by subst hr2;unfold YA;exact Zd h1 (Q2 (hR.symm.trans hJ) (Zk h4 (rfl)))
    refine Yp [Ow none 0 46 6 (([]:List Zm).map Zm.c),Bk b1 #[.i qd] 3] (fun _ hM=>hM.emptyrow none 46 6) ?_
    rw[e]
    exact ZN (.inl rfl) (none,0) [] (.tuple #[.slice none 0 0,.i 4]) {} rfl (fun _ hM=>hM.sub (sb 1))
   ·refine ZI (Zc 1 [] [(30,.slice A_l l.length c_l)] {} (UR (Γ:=AN) 31 (YO l) (fun r3 g=>.slice g.1 r3.length g.2) (fun r3 g=>[Ow g.1 g.2 46 6 (r3.map Zm.c)]) (fun w hM=>Vf A_l c_l l w (h_l.sat hM) ui (by (try have e3_:r3.length=l.length:=(by rw[← hr3];rfl));exact sg)) {} (fun r3 hr3=>?_)))
    rintro⟨A,c⟩
    refine Y2 (fun w hM=>hM.short_at 0 rfl) (fun ed=>Zc 3 [] [(9,.slice A r3.length c)] {} (Zv (Zc 1 [] [(32,.slice A r3.length c)] {} (Xx (Γ:=(List Zm)) (fun _=>.tuple #[]) (fun g=>[.inr (XG (g.length=r3.length∧g=Gs r3)),Ow A c 46 6 (g.map Zm.c)]) [Ow A c 46 6 (r3.map Zm.c)] [Bk b1 #[.i qd] 3] (some 33) (fun _=>[(3,.p0 b1),(9,.slice A r3.length c)]) (fun w hM=>PT A c r3 w hM.pass) Kr (fun g=>Kr) ?_))))
    rintro r4
    refine YS [.inr (XG (r4.length=r3.length∧r4=Gs r3)),Ow A c 46 6 (r4.map Zm.c),Bk b1 #[.i qd] 3] (fun _ hM=>hM) (Y2 (fun w hM=>hM.fact_at 0 rfl) (fun ua=>YK [Ow A c 46 6 (r4.map Zm.c),Bk b1 #[.i qd] 3] (.cons _ (aA _)) ?_))
    have nc:r4.length=r3.length:=ua.1
    refine TL.rw 9 (.slice A r3.length c) (.slice A r4.length c) Kr (by rw[nc]) ?_
    have hr4:Gs r3=r4:=(ua.2).symm
    refine Zv (Zc 1 [] [(10,.slice none 0 0)] {} (Zz (Ze (Zc 3 [] [(34,.slice A r4.length c),(35,.i (r4.length:Int)),(36,.i 0)] {} (Zb rfl (QS [Ow none 0 46 6 (([]:List Zm).map Zm.c),Ow A c 46 6 (r4.map Zm.c),Bk b1 #[.i qd] 3] (fun _ hM=>hM.emptyrow none 46 6) ?_))))))
    obtain⟨R6,x9⟩:∃ R,R=Qg qd r4 0 ([]:List Zm):=⟨_,rfl⟩
    refine TC.cut (S:=(List Zm)×(Option Addr)×Nat) (fun (ql,A_out_2,qk)=>[(10,.slice A_out_2 ql.length qk)]) (fun (ql,A_out_2,qk)=>[Ow A_out_2 qk 46 6 (ql.map Zm.c)]) (fun (ql,A_out_2,qk)=>R6=ql∧ql.length≤r4.length) ?_ ?_
    ·refine TC.block (XB (X:=Nat×(List Zm)×(Option Addr)×Nat) (fun (k_2,out,A_out,qg)=>[(3,.p0 b1),(10,.slice A_out out.length qg),(34,.slice A r4.length c),(35,.i (r4.length:Int)),(36,.i (k_2:Int))]) (fun (k_2,out,A_out,qg)=>[Ow A_out qg 46 6 (out.map Zm.c),Ow A c 46 6 (r4.map Zm.c),Bk b1 #[.i qd] 3]) (fun (k_2,out,A_out,qg)=>r4.length-k_2) (fun (k_2,out,A_out,qg)=>k_2≤r4.length∧R6=Qg qd (r4.drop k_2) k_2 out∧out.length≤k_2) ?_ (0,([]:List Zm),none,0) ⟨aN _,x9,sz⟩ Kr (sb 7))
     rintro⟨k_2,out,A_out,qg⟩ ⟨y9,xg,wo⟩
     refine Ze (Zc 1 [] [(37,.b (decide ((k_2:Int)<(r4.length:Int))))] {} (Zz (TC.cond (decide ((k_2:Int)<(r4.length:Int))) rfl Kr (fun h5=>?_) (fun h5=>?_))))
     ·have zp:=ltN h5
      obtain⟨x_2,xw⟩:=elN zp
      have zr:=drop_at xw
      refine Yg (TC.seq (TC.block (Ze (TL.v (sV (Instr.indexAt 52 (.slice A r4.length c) (.i (k_2:Int)))) 38 (.pointer (some (Ix A (k_2*6)))) (fun w hM=>Zy (hM.rd_at 1 rfl) (by simp) Kr (by (try have e3_:r3.length=l.length:=(by rw[← hr3];rfl));exact sd) (by (try have e3_:r3.length=l.length:=(by rw[← hr3];rfl));exact sd)) {} (TL.v (sV (Instr.loadAt 46 (.pointer (some (Ix A (k_2*6)))))) 39 (Zm.v x_2) (fun w hM=>Yd (n:=6) (off:=0) (i:=k_2) (Zm.v x_2) (hM.rd_at 1 rfl) (ZR xw) Kr Kr Kr) {} (ZH 12 (fun b3=>.p0 b3) (fun b3=>Bk b3 (Zm.c Zm.zero) 46) (fun b3=>{}) (fun b3=>Ym 0 (Bk b3 (Zm.c x_2) 46) (fun _=>{}) (Zv (Zc 2 [] [(40,.slice A_out out.length qg),(41,.func (.func 41) #[] #[.p0 b3,.p0 b1])] {} (TL.c 42 (XI out x_2 qd) (fun r5=>.b r5) (fun w hM=>Wi A_out qg out ⟨b3,0,none⟩ x_2 ⟨b1,0,none⟩ qd w (hM.rd_at 1 rfl) (hM.le_at 1 rfl) (Rd.lit hM 0 _ rfl Kr Kr Kr) (Rd.lit hM 3 _ rfl Kr Kr Kr)) {} (fun r5 hr5=>Zc 4 [] [(43,.b (!r5))] {} (Zb rfl (TC.cond (!r5) rfl Kr (fun h6=>?_) (fun h6=>?_))))))))))))))
      ·refine TC.region (Zc 2 [0] [(44,.slice A_out out.length qg),(45,Zm.v x_2)] {} (ZH 46 (fun b4=>.slice (Pa b4) 1 1) (fun b4=>Bk b4 (Zm.c x_2) 46) (fun b4=>{}) (fun b4=>TL.os (Γ:=AN) (sV (Builtin.append_ #[52,52] 52 #[.slice A_out out.length qg,.slice (Pa b4) 1 1])) 47 (fun g=>.slice g.1 (out++([x_2])).length g.2) 2 (fun g=>Ow g.1 g.2 46 6 ((out++([x_2])).map Zm.c)) (Jc (bytes:=48) 52 2 ([x_2]) Kr rfl rfl Zm.one rfl (fun w hM=>(Rd.lit hM 0 _ rfl Kr Kr Kr)) rfl (by (try have e3_:r3.length=l.length:=(by rw[← hr3];rfl));exact sa)) {} ?_)))
       rintro⟨A_2,c_2⟩
       exact Zc 5 [] [(10,.slice A_2 ((out++([x_2])).length) c_2)] {} (Z2 rfl (Yr (Z4 (TC.region (Zc 2 [] [(36,.i (w64 ((k_2:Int)+1)))] {} (Z2 rfl (TE.rw 36 (.i (w64 ((k_2:Int)+1))) (.i ((k_2+1:Nat):Int)) Kr (ZT k_2 (by (try have e3_:r3.length=l.length:=(by rw[← hr3];rfl));omega)) (Z7 (x:=(k_2,out,A_out,qg)) (k_2+1,(out++([x_2])),A_2,c_2) ⟨by omega,xg.trans (by subst hr2 hr3 hr4 hr5;rw[zr];exact Zk h6 (rfl)),(by (try have e3_:r3.length=l.length:=(by rw[← hr3];rfl));exact sl)⟩ (mN zp) Kr (sb 28)))))))))
      ·exact TC.skip (Yr (Z4 (TC.region (Zc 2 [] [(36,.i (w64 ((k_2:Int)+1)))] {} (Z2 rfl (TE.rw 36 (.i (w64 ((k_2:Int)+1))) (.i ((k_2+1:Nat):Int)) Kr (ZT k_2 (by (try have e3_:r3.length=l.length:=(by rw[← hr3];rfl));omega)) (Z7 (x:=(k_2,out,A_out,qg)) (k_2+1,out,A_out,qg) ⟨by omega,xg.trans (by subst hr2 hr3 hr4 hr5;rw[zr];exact Zd h6 (rfl)),(by (try have e3_:r3.length=l.length:=(by rw[← hr3];rfl));exact sl)⟩ (mN zp) Kr (sb 14))))))))
     ·have zr:=QE h5
      refine TC.exit (Yc (Yc (Z1 ?_)))
      exact TE.cut (out,A_out,qg) (⟨xg.trans (by subst hr2 hr3 hr4;rw[zr];exact rfl),(by (try have e3_:r3.length=l.length:=(by rw[← hr3];rfl));exact sl)⟩) Kr (sb 1)
    ·rintro⟨ql,A_out_2,qk⟩ ⟨va,vu⟩
     refine YZ (Zc 3 [] [(4,.slice A_out_2 ql.length qk),(5,.i 0)] {} (Zb rfl (TC.ret ?_)))
     have e:YA l qd=(ql,0):=by subst hr2 hr3 hr4;unfold YA;exact Zd h1 (Q2 (hR.symm.trans hJ) (Zd h4 (Y5 (x9.symm.trans va) (rfl))))
     rw[e]
     exact ZN (.inl rfl) (A_out_2,qk) [] (.tuple #[.slice A_out_2 ql.length qk,.i 0]) {} rfl (fun _ hM=>hM.sub (sb 1))
end Go.Sky
end
section
namespace Go.Sky
open Go
structure Zi where
 (rules:ZB)
 (all:List followed)
 (next last:Int)
deriving DecidableEq
def Zi.zero:Zi:=⟨ZB.zero,[],0,0⟩
def Zi.k (t:Zi) (A:Option Addr) (c:Nat):Array Value:=#[.int .i64 t.rules.Need,.int .i64 t.rules.Of,.int .i64 t.rules.Misses,.int .i64 t.rules.Accel,.int .i64 t.rules.Place,.int .i64 t.rules.Speed,.slice A t.all.length c,.int .i64 t.next,.int .i64 t.last]
end Go.Sky
end
