/- Lemmas toward the given statement (part 5 of 20): Ka GrowNil Clear Kb Ra Qa SortLib LaysSpot SortSpot. Each theorem states its own conditions; nothing is assumed beyond them. -/
import Derived.Test.YtjggkpkehdnhiaaGreatDoorBx04
import Derived.Test.YtjggkpkehdnhiaaGreatDoorBx02
import Derived.Lib.AppendZerosOnto
import Derived.Shelf.SlSortCmp.NoneTotal
import Derived.Shelf.SlLaysF0
import Derived.Test.YtjggkpkehdnhiaaGreatDoorRows
section
namespace Go.Sky
open Go Go.Eng Go.Proofs
def QK (r_:Zx):Int :=
 let r1:=Xy r_.Need r_.Of
 cond (r1 != 0) (
  r1) (
  cond ((((((((decide (r_.Misses<0))||(decide (r_.Misses>100)))||(decide (r_.Accel<0)))||(decide (r_.Accel>20)))||(decide (r_.Place<0)))||(decide (r_.Place>256)))||(decide (r_.Speed<0)))||(decide (r_.Speed>256))) (
   4) (
   0))
set_option maxRecDepth 100000 in
theorem W4 (r_:Zx) (w:World):Calls Tryz.prog 97 #[Zx.v r_] w (Ret w (.int .i64 (QK r_))):=by
 refine Zk (vs:=[Zx.v r_]) (w:=w) Tryz.func97 rfl Tryz.ntmps97 rfl (TC.sr (TL.nw 1 (fun b1=>.p0 b1) (fun b1=>Bk b1 (Zx.c r_) 114) (fun b1=>{}) (fun b1=>TL.r 2 [] [(2,.i 0)] {} (TL.ns (TC.sr (TL.r 4 [0,0] [(5,.i r_.Need),(7,.i r_.Of)] {} (TL.c 8 (Xy r_.Need r_.Of) (fun r1=>.i r1) (fun w _=>Ve r_.Need r_.Of w) {} (fun r1 hr1=>TL.r 6 [] [(3,.i r1)] {} (TL.nr (TL.r 2 [] [(10,.b (r1 != 0))] {} (TL.next rfl (TC.cond (r1 != 0) rfl Kr (fun h1=>?_) (fun h1=>?_)))))))))))))
 ·exact TC.sr (TL.r 2 [] [(2,.i r1)] {} (TL.next rfl (TC.ret (TE.rt (TE.ret [] (.i r1) {} (by unfold QK;refine eS (fun z=>(.i z:Value)) ?_;subst hr1;exact Zj h1 (rfl)))))))
 ·refine TC.sn (TC.seq (TC.sr (TL.r 4 [0] [(15,.b (decide (r_.Misses<0)))] {} (TL.j 15 (decide (r_.Misses<0)) 8 [] [0] (fun β=>[(19,.b (β||(decide (r_.Misses>100))))]) Kr {} {} (TL.r 9 [] [(20,.b ((decide (r_.Misses<0))||(decide (r_.Misses>100))))] {} (TL.j 20 ((decide (r_.Misses<0))||(decide (r_.Misses>100))) 13 [] [0] (fun β=>[(24,.b (β||(decide (r_.Accel<0))))]) Kr {} {} (TL.r 14 [] [(25,.b (((decide (r_.Misses<0))||(decide (r_.Misses>100)))||(decide (r_.Accel<0))))] {} (TL.j 25 (((decide (r_.Misses<0))||(decide (r_.Misses>100)))||(decide (r_.Accel<0))) 18 [] [0] (fun β=>[(29,.b (β||(decide (r_.Accel>20))))]) Kr {} {} (TL.r 19 [] [(30,.b ((((decide (r_.Misses<0))||(decide (r_.Misses>100)))||(decide (r_.Accel<0)))||(decide (r_.Accel>20))))] {} (TL.j 30 ((((decide (r_.Misses<0))||(decide (r_.Misses>100)))||(decide (r_.Accel<0)))||(decide (r_.Accel>20))) 23 [] [0] (fun β=>[(34,.b (β||(decide (r_.Place<0))))]) Kr {} {} (TL.r 24 [] [(35,.b (((((decide (r_.Misses<0))||(decide (r_.Misses>100)))||(decide (r_.Accel<0)))||(decide (r_.Accel>20)))||(decide (r_.Place<0))))] {} (TL.j 35 (((((decide (r_.Misses<0))||(decide (r_.Misses>100)))||(decide (r_.Accel<0)))||(decide (r_.Accel>20)))||(decide (r_.Place<0))) 28 [] [0] (fun β=>[(39,.b (β||(decide (r_.Place>256))))]) Kr {} {} (TL.r 29 [] [(40,.b ((((((decide (r_.Misses<0))||(decide (r_.Misses>100)))||(decide (r_.Accel<0)))||(decide (r_.Accel>20)))||(decide (r_.Place<0)))||(decide (r_.Place>256))))] {} (TL.j 40 ((((((decide (r_.Misses<0))||(decide (r_.Misses>100)))||(decide (r_.Accel<0)))||(decide (r_.Accel>20)))||(decide (r_.Place<0)))||(decide (r_.Place>256))) 33 [] [0] (fun β=>[(44,.b (β||(decide (r_.Speed<0))))]) Kr {} {} (TL.r 34 [] [(45,.b (((((((decide (r_.Misses<0))||(decide (r_.Misses>100)))||(decide (r_.Accel<0)))||(decide (r_.Accel>20)))||(decide (r_.Place<0)))||(decide (r_.Place>256)))||(decide (r_.Speed<0))))] {} (TL.j 45 (((((((decide (r_.Misses<0))||(decide (r_.Misses>100)))||(decide (r_.Accel<0)))||(decide (r_.Accel>20)))||(decide (r_.Place<0)))||(decide (r_.Place>256)))||(decide (r_.Speed<0))) 38 [] [0] (fun β=>[(49,.b (β||(decide (r_.Speed>256))))]) Kr {} {} (TL.next rfl (TC.cond ((((((((decide (r_.Misses<0))||(decide (r_.Misses>100)))||(decide (r_.Accel<0)))||(decide (r_.Accel>20)))||(decide (r_.Place<0)))||(decide (r_.Place>256)))||(decide (r_.Speed<0)))||(decide (r_.Speed>256))) rfl Kr (fun h2=>?_) (fun h2=>?_)))))))))))))))))))
  ·exact TC.sr (TL.r 1 [] [(2,.i 4)] {} (TL.next rfl (TC.ret (TE.rt (TE.ret [] (.i 4) {} (by unfold QK;refine eS (fun z=>(.i z:Value)) ?_;subst hr1;exact Zb h1 (Zj h2 (rfl))))))))
  ·exact TC.snr (TL.r 1 [] [(2,.i 0)] {} (TL.next rfl (TC.ret (TE.ret [] (.i 0) {} (by unfold QK;refine eS (fun z=>(.i z:Value)) ?_;subst hr1;exact Zb h1 (Zb h2 (rfl)))))))
def Yf (r_:Zx):Ze×Int :=
 let r1:=QK r_
 cond (r1 != 0) (
  (Ze.zero,0)) (
  ((⟨r_,([]:List followed),0,(-1)⟩:Ze),0))
set_option maxRecDepth 100000 in
theorem UD (r_:Zx) (w:World) (hM:Sat ⟨w,Xj []⟩ [] w) (hc:QK r_=0):Calls Tryz.prog 43 #[Zx.v r_] w (QW (Γ:=Nat×(Option Addr×Nat)) ⟨w,Xj []⟩ (fun g=>.tuple #[.pointer (some ⟨g.1,0,none⟩),.int .i64 ((Yf r_).2)]) (fun g=>[.inl (g.1,.cells (Ze.k (⟨⟨((Yf r_).1).rules.Need,((Yf r_).1).rules.Of,((Yf r_).1).rules.Misses,((Yf r_).1).rules.Accel,((Yf r_).1).rules.Place,((Yf r_).1).rules.Speed⟩,((Yf r_).1).all,((Yf r_).1).next,((Yf r_).1).last⟩:Ze) g.2.1 g.2.2) 118 (0,0)),.inr (Own g.2.1 g.2.2 122 23 ((((Yf r_).1).all).map followed.c))])):=by
 refine Yv (w0:=⟨w,Xj []⟩) (vs:=[Zx.v r_]) hM Tryz.func43 rfl Tryz.ntmps43 rfl (TC.sr (TL.nw 1 (fun b1=>.p0 b1) (fun b1=>Bk b1 (Zx.c r_) 114) (fun b1=>{}) (fun b1=>TL.r 3 [] [(2,.pointer none),(3,.i 0)] {} (TL.ns (TC.sr (TL.r 1 [0] [(5,Zx.v r_)] {} (TL.c 6 (QK r_) (fun r1=>.i r1) (fun w _=>W4 r_ w) {} (fun r1 hr1=>TL.r 3 [] [(4,.i r1)] {} (TL.nr (TL.r 2 [] [(8,.b (r1 != 0))] {} (TL.next rfl (TC.cond (r1 != 0) rfl Kr (fun h1=>?_) (fun h1=>?_)))))))))))))
 ·exact((by rw[hc] at hr1;subst hr1;cases h1):False).elim
 ·refine TC.snr (TL.r 2 [0] [(11,.agg #[.i r_.Need,.i r_.Of,.i r_.Misses,.i r_.Accel,.i r_.Place,.i r_.Speed,.slice none 0 0,.i 0,.i (-1)])] {} (TL.nw 12 (fun b2=>.p0 b2) (fun b2=>Bk b2 (Ze.k (⟨r_,[],0,(-1)⟩:Ze) none 0) 118) (fun b2=>{}) (fun b2=>TL.r 5 [] [(2,.p0 b2),(3,.i 0)] {} (TL.next rfl (TC.ret (TE.conv [Ow none 0 122 23 (([]:List followed).map followed.c),Bk b2 (Ze.k (⟨r_,[],0,(-1)⟩:Ze) none 0) 118,Bk b1 (Zx.c r_) 114] (fun _ hM=>hM.emptyrow none 122 23) (TE.conv [Ow none 0 122 23 (([]:List followed).map followed.c),Bk b2 (Ze.k (⟨r_,([]:List followed),0,(-1)⟩:Ze) none 0) 118,Bk b1 (Zx.c r_) 114] (fun _ hM=>hM) ?_)))))))
  have e:Yf r_=((⟨r_,([]:List followed),0,(-1)⟩:Ze),0):=by subst hr1;unfold Yf;exact Zb h1 (rfl)
  refine TE.conv [Bk b2 (Ze.k (⟨r_,([]:List followed),0,(-1)⟩:Ze) none 0) 118,Ow none 0 122 23 (([]:List followed).map followed.c),Bk b1 (Zx.c r_) 114] (fun _ hM=>hM.perm (px [1,0,2])) ?_
  rw[e]
  exact TE.retM (.inl rfl) (b2,(none,0)) [] (.tuple #[.p0 b2,.i 0]) {} rfl (fun _ hM=>hM.sub (sb 3))
def Y8 (time:Int):List Zg→Nat→((Unit) ⊕ (Int))
 | [],_=>.inl ()
 | x::xs,k=>let r1:=Zz x
  cond (r1 != 0) (
   .inr r1) (
   cond (x.Time != time) (
    .inr 12) (
    Y8 time xs (k+1)))
def ZJ (t:Ze) (l:List Zg) (time:Int):Int :=
 cond (decide ((l.length:Int)>32)) (
  2) (
  cond ((decide (time<0))||(decide (time>200000))) (
   4) (
   cond (decide (time≤t.last)) (
    12) (
    Sum.elim (fun _ =>
     0) (fun r=>r) (Y8 time l 0))))
set_option maxHeartbeats 4000000 in
set_option maxRecDepth 100000 in
theorem Vw (a_t:Addr) (t:Ze) (A_t_all:Option Addr) (c_t_all:Nat) (A_l:Option Addr) (c_l:Nat) (l:List Zg) (time:Int) (w:World) (h_t:Rd w 9 (some a_t) [#[.int .i64 t.rules.Need,.int .i64 t.rules.Of,.int .i64 t.rules.Misses,.int .i64 t.rules.Accel,.int .i64 t.rules.Place,.int .i64 t.rules.Speed,.slice A_t_all t.all.length c_t_all,.int .i64 t.next,.int .i64 t.last]]) (hr_t_all:Rd w 23 A_t_all (t.all.map followed.c)) (_hl_t_all:t.all.length≤c_t_all) (h_l:Rd w 6 A_l (l.map Zg.c)) (_hc_l:l.length≤c_l):Calls Tryz.prog 50 #[.pointer (some a_t),.slice A_l l.length c_l,.int .i64 time] w (Ret w (.int .i64 (ZJ t l time))):=by
 have s_t_all:=hr_t_all.short;rw[List.length_map] at s_t_all
 have s_l:=h_l.short;rw[List.length_map] at s_l
 refine Zk (vs:=[.pointer (some a_t),.slice A_l l.length c_l,.i time]) (w:=w) Tryz.func50 rfl Tryz.ntmps50 rfl (TC.sr (TL.r 1 [] [(6,.i 0)] {} (TL.ns (TC.block (TC.sr (TL.r 4 [] [(10,.b (decide ((l.length:Int)>32)))] {} (TL.next rfl (TC.cond (decide ((l.length:Int)>32)) rfl Kr (fun h1=>?_) (fun h1=>?_)))))))))
 ·refine TC.sr (TL.r 1 [] [(6,.i 2)] {} (TL.next rfl (TC.ret (TE.rb (TE.rt ?_)))))
  exact TE.ret [] (.i 2) {} (by unfold ZJ;refine eS (fun z=>(.i z:Value)) ?_;exact Zj h1 (rfl))
 ·have q1_0:=(Zq h1)
  refine TC.sr (TL.r 3 [] [(17,.b (decide (time<0)))] {} (TL.j 17 (decide (time<0)) 6 [] [] (fun β=>[(20,.b (β||(decide (time>200000))))]) Kr {} {} (TL.r 7 [] [(14,.b ((decide (time<0))||(decide (time>200000))))] {} (TL.next rfl (TC.cond ((decide (time<0))||(decide (time>200000))) rfl Kr (fun h2=>?_) (fun h2=>?_))))))
  ·refine TC.sr (TL.r 1 [] [(6,.i 4)] {} (TL.next rfl (TC.ret (TE.rb (TE.rt ?_)))))
   exact TE.ret [] (.i 4) {} (by unfold ZJ;refine eS (fun z=>(.i z:Value)) ?_;exact Zb h1 (Zj h2 (rfl)))
  ·have q2_0:=(Zq (Zt h2))
   have q2_1:=(Zq (ZR h2))
   refine TC.sr (TL.r 4 [] [(22,.i time),(25,.pointer (some (a_t.add 8)))] {} (TL.v (sV (Instr.loadAt 3 (.pointer (some (a_t.add 8))))) 26 (.i t.last) (fun w hM=>Zs (off:=8) (.i t.last) (h_t.sat hM) (Xv _) Kr Kr) {} (TL.r 7 [] [(21,.b (decide (time≤t.last)))] {} (TL.next rfl (TC.cond (decide (time≤t.last)) rfl Kr (fun h3=>?_) (fun h3=>?_))))))
   ·refine TC.sr (TL.r 1 [] [(6,.i 12)] {} (TL.next rfl (TC.ret (TE.rb (TE.rt ?_)))))
    exact TE.ret [] (.i 12) {} (by unfold ZJ;refine eS (fun z=>(.i z:Value)) ?_;exact Zb h1 (Zb h2 (Zj h3 (rfl))))
   ·have q3_0:=(Zq h3)
    refine TC.skip (TE.nb (TE.next (TC.seq (TC.sr (TL.r 3 [] [(28,.slice A_l l.length c_l),(29,.i (l.length:Int)),(30,.i 0)] {} (TL.next rfl ?_))))))
    obtain⟨R1,hR⟩:∃ R,R=Y8 time l 0:=⟨_,rfl⟩
    refine TC.cut (S:=Unit) (fun (_:Unit)=>[]) (fun (_:Unit)=>[]) (fun (_:Unit)=>R1=.inl ()) ?_ ?_
    ·refine TC.block (TC.lw (X:=Nat) (fun k=>[(2,.i time),(28,.slice A_l l.length c_l),(29,.i (l.length:Int)),(30,.i (k:Int))]) (fun k=>[]) (fun k=>l.length-k) (fun k=>k≤l.length∧R1=Y8 time (l.drop k) k) ?_ 0 ⟨Nat.zero_le _,hR⟩ Kr (sb 0))
     rintro k ⟨hk,hI⟩
     refine TC.sr (TL.r 1 [] [(31,.b (decide ((k:Int)<(l.length:Int))))] {} (TL.ns (TC.cond (decide ((k:Int)<(l.length:Int))) rfl Kr (fun h4=>?_) (fun h4=>?_))))
     ·have hlt:=ltN h4
      obtain⟨x,hx⟩:=elN hlt
      have hd:=drop_at hx
      refine TC.sn (TC.seq (TC.block (TC.sr (TL.v (sV (Instr.indexAt 52 (.slice A_l l.length c_l) (.i (k:Int)))) 32 (.pointer (some (Ix A_l (k*6)))) (fun w hM=>Zp (h_l.sat hM) (by simp) Kr sd sd) {} (TL.v (sV (Instr.loadAt 42 (.pointer (some (Ix A_l (k*6)))))) 33 (Zg.v x) (fun w hM=>Z6 (n:=6) (off:=0) (i:=k) (Zg.v x) (h_l.sat hM) (Z8 hx) Kr Kr Kr) {} (TL.nw 8 (fun b1=>.p0 b1) (fun b1=>Bk b1 (Zg.c Zg.zero) 42) (fun b1=>{}) (fun b1=>TL.s 0 (Bk b1 (Zg.c x) 42) (fun _=>{}) (TL.ns (TC.sr (TL.r 1 [0] [(34,Zg.v x)] {} (TL.c 35 (Zz x) (fun r1=>.i r1) (fun w _=>Xq x w) {} (fun r1 hr1=>TL.r 3 [] [(9,.i r1)] {} (TL.nr (TL.r 2 [] [(37,.b (r1 != 0))] {} (TL.next rfl (TC.cond (r1 != 0) rfl Kr (fun h5=>?_) (fun h5=>?_)))))))))))))))))
      ·refine TC.sr (TL.r 2 [] [(6,.i r1)] {} (TL.next rfl (TC.ret (TE.rt (TE.rb (TE.rt (TE.rt (TE.rb (TE.rt (TE.rt ?_))))))))))
       exact TE.ret [] (.i r1) {} (by unfold ZJ;refine eS (fun z=>(.i z:Value)) ?_;subst hr1;exact Zb h1 (Zb h2 (Zb h3 (X3 (hR.symm.trans (hI.trans (by rw[hd];exact Zj h5 (rfl)))) rfl))))
      ·have q5_0:=(QQ h5)
       refine TC.snr (TL.r 4 [0] [(42,.b (x.Time != time))] {} (TL.next rfl (TC.cond (x.Time != time) rfl Kr (fun h6=>?_) (fun h6=>?_))))
       ·refine TC.sr (TL.r 1 [] [(6,.i 12)] {} (TL.next rfl (TC.ret (TE.rb (TE.rt (TE.rt (TE.rb (TE.rt (TE.rt ?_)))))))))
        exact TE.ret [] (.i 12) {} (by unfold ZJ;refine eS (fun z=>(.i z:Value)) ?_;subst hr1;exact Zb h1 (Zb h2 (Zb h3 (X3 (hR.symm.trans (hI.trans (by rw[hd];exact Zb h5 (Zj h6 (rfl))))) rfl))))
       ·have q6_0:=(QQ h6)
        exact TC.skip (TE.nb (TE.next (TC.region (TL.r 2 [] [(30,.i (w64 ((k:Int)+1)))] {} (TL.done rfl (TE.rw 30 (.i (w64 ((k:Int)+1))) (.i ((k+1:Nat):Int)) Kr (ZF k (by omega)) (TE.again (x:=k) (k+1) ⟨by omega,hI.trans (by subst hr1;rw[hd];exact Zb h5 (Zb h6 (rfl)))⟩ (mN hlt) Kr (sb 0))))))))
     ·have hd:=Qc h4
      refine TC.exit (TE.et (TE.et (TE.exit_same ?_)))
      exact TE.cut () (hI.trans (by rw[hd];exact rfl)) Kr (sb 0)
    ·intro _ hJ
     exact TE.nr (TL.r 1 [] [(6,.i 0)] {} (TL.next rfl (TC.ret (TE.ret [] (.i 0) {} (by unfold ZJ;refine eS (fun z=>(.i z:Value)) ?_;exact Zb h1 (Zb h2 (Zb h3 (Xk (hR.symm.trans hJ) (rfl)))))))))
def Y0:List followed→Nat→(List Za)→(List Za)
 | [],_,out=>out
 | x::xs,k,out=>Y0 xs (k+1) (out++([x.f]))
def YP (t:Ze):List Za :=
 Y6 (Y0 t.all 0 ([]:List Za)) (fun out_2 =>
  out_2)
set_option maxRecDepth 100000 in
theorem Vp (a_t:Addr) (t:Ze) (A_t_all:Option Addr) (c_t_all:Nat) (w:World) (h_t:Rd w 9 (some a_t) [#[.int .i64 t.rules.Need,.int .i64 t.rules.Of,.int .i64 t.rules.Misses,.int .i64 t.rules.Accel,.int .i64 t.rules.Place,.int .i64 t.rules.Speed,.slice A_t_all t.all.length c_t_all,.int .i64 t.next,.int .i64 t.last]]) (hr_t_all:Rd w 23 A_t_all (t.all.map followed.c)) (_hl_t_all:t.all.length≤c_t_all) (hn:t.all.length≤64):Calls Tryz.prog 18 #[.pointer (some a_t)] w (QW (Γ:=(Option Addr×Nat)) (cx w) (fun g=>.slice g.1 ((YP t).length) g.2) (fun g=>[.inr (Own g.1 g.2 44 20 ((YP t).map Za.c))])):=by
 have s_t_all:=hr_t_all.short;rw[List.length_map] at s_t_all
 refine Zk (vs:=[.pointer (some a_t)]) (w:=w) Tryz.func18 rfl Tryz.ntmps18 rfl (TC.sr (TL.r 1 [] [(2,.slice none 0 0)] {} (TL.nr (TL.r 1 [] [(3,.slice none 0 0)] {} (TL.ns (TC.sr (TL.r 3 [] [(8,.pointer (some (a_t.add 6)))] {} (TL.v (sV (Instr.loadAt 116 (.pointer (some (a_t.add 6))))) 9 (.slice A_t_all t.all.length c_t_all) (fun w hM=>Zs (off:=6) (.slice A_t_all t.all.length c_t_all) (h_t.sat hM) (Xv _) Kr Kr) {} (TL.r 6 [] [(10,.i (t.all.length:Int)),(11,.i 0)] {} (TL.next rfl (TC.conv [Ow none 0 44 20 (([]:List Za).map Za.c)] (fun _ hM=>hM.emptyrow none 44 20) ?_)))))))))))
 obtain⟨R2,hR⟩:∃ R,R=Y0 t.all 0 ([]:List Za):=⟨_,rfl⟩
 refine TC.cut (S:=(List Za)×(Option Addr)×Nat) (fun (out_2,A_out_2,c_out_2)=>[(3,.slice A_out_2 out_2.length c_out_2)]) (fun (out_2,A_out_2,c_out_2)=>[Ow A_out_2 c_out_2 44 20 (out_2.map Za.c)]) (fun (out_2,A_out_2,c_out_2)=>R2=out_2∧out_2.length≤t.all.length) ?_ ?_
 ·refine TC.block (TC.lw (X:=Nat×(List Za)×(Option Addr)×Nat) (fun (k,out,A_out,c_out)=>[(3,.slice A_out out.length c_out),(9,.slice A_t_all t.all.length c_t_all),(10,.i (t.all.length:Int)),(11,.i (k:Int))]) (fun (k,out,A_out,c_out)=>[Ow A_out c_out 44 20 (out.map Za.c)]) (fun (k,out,A_out,c_out)=>t.all.length-k) (fun (k,out,A_out,c_out)=>k≤t.all.length∧R2=Y0 (t.all.drop k) k out∧out.length≤k) ?_ (0,([]:List Za),none,0) ⟨Nat.zero_le _,hR,sz⟩ Kr (sb 1))
  rintro⟨k,out,A_out,c_out⟩ ⟨hk,hI,hl_out⟩
  refine TC.sr (TL.r 1 [] [(12,.b (decide ((k:Int)<(t.all.length:Int))))] {} (TL.ns (TC.cond (decide ((k:Int)<(t.all.length:Int))) rfl Kr (fun h1=>?_) (fun h1=>?_))))
  ·have hlt:=ltN h1
   obtain⟨x,hx⟩:=elN hlt
   have hd:=drop_at hx
   refine TC.sn (TC.seq (TC.block (TC.sr (TL.v (sV (Instr.indexAt 116 (.slice A_t_all t.all.length c_t_all) (.i (k:Int)))) 13 (.pointer (some (Ix A_t_all (k*23)))) (fun w hM=>Zp (hr_t_all.sat hM) (by simp) Kr sd sd) {} (TL.v (sV (Instr.loadAt 122 (.pointer (some (Ix A_t_all (k*23)))))) 14 (followed.v x) (fun w hM=>Z6 (n:=23) (off:=0) (i:=k) (followed.v x) (hr_t_all.sat hM) (Z8 hx) Kr Kr Kr) {} (TL.nw 5 (fun b1=>.p0 b1) (fun b1=>Bk b1 (followed.c followed.zero) 122) (fun b1=>{}) (fun b1=>TL.s 0 (Bk b1 (followed.c x) 122) (fun _=>{}) (TL.next rfl (TC.region (TL.r 3 [0] [(15,.slice A_out out.length c_out),(17,Za.v x.f)] {} (TL.nw 18 (fun b2=>.slice (Pa b2) 1 1) (fun b2=>Bk b2 (Za.c x.f) 44) (fun b2=>{}) (fun b2=>TL.os (Γ:=AN) (sV (Builtin.append_ #[31,31] 31 #[.slice A_out out.length c_out,.slice (Pa b2) 1 1])) 19 (fun g=>.slice g.1 (out++([x.f])).length g.2) 2 (fun g=>Ow g.1 g.2 44 20 ((out++([x.f])).map Za.c)) (Qx (bytes:=160) 31 2 ([x.f]) Kr rfl rfl Za.one rfl (fun w hM=>(Rd.lit hM 0 _ rfl Kr Kr Kr)) rfl sa) {} ?_))))))))))))
   rintro⟨A,c⟩
   exact TL.r 6 [] [(3,.slice A ((out++([x.f])).length) c)] {} (TL.done rfl (TE.nb (TE.next (TC.region (TL.r 2 [] [(11,.i (w64 ((k:Int)+1)))] {} (TL.done rfl (TE.rw 11 (.i (w64 ((k:Int)+1))) (.i ((k+1:Nat):Int)) Kr (ZF k (by omega)) (TE.again (x:=(k,out,A_out,c_out)) (k+1,(out++([x.f])),A,c) ⟨by omega,hI.trans (by rw[hd];exact rfl),sl⟩ (mN hlt) Kr (sb 4)))))))))
  ·have hd:=Qc h1
   refine TC.exit (TE.et (TE.et (TE.exit_same ?_)))
   exact TE.cut (out,A_out,c_out) (⟨hI.trans (by rw[hd];exact rfl),sl⟩) Kr (sb 1)
 ·rintro⟨out_2,A_out_2,c_out_2⟩ ⟨hJ,hl_out_2⟩
  refine TE.nr (TL.r 2 [] [(2,.slice A_out_2 out_2.length c_out_2)] {} (TL.next rfl (TC.ret ?_)))
  have e:YP t=out_2:=by unfold YP;exact Ye (hR.symm.trans hJ) (rfl)
  rw[e]
  exact TE.retM (.inl rfl) (A_out_2,c_out_2) [] (.slice A_out_2 out_2.length c_out_2) {} rfl (fun _ hM=>hM.sub (sb 1))
def XM (t:Ze) (time:Int):List followed→Nat→(List Za)→(List Za)
 | [],_,out=>out
 | x::xs,k,out=>let r1:=Zo x.f time t.rules.Accel
  cond (r1.2==0) (
   XM t time xs (k+1) (out++([r1.1]))) (
   XM t time xs (k+1) out)
def YQ (t:Ze) (time:Int):List Za×Int :=
 cond ((decide (time<0))||(decide (time>200000))) (
  ([],4)) (
  cond (decide (time<t.last)) (
   ([],12)) (
   Y6 (XM t time t.all 0 ([]:List Za)) (fun out_2 =>
    (out_2,0))))
set_option maxHeartbeats 4000000 in
set_option maxRecDepth 100000 in
theorem FQ (a_t:Addr) (t:Ze) (A_t_all:Option Addr) (c_t_all:Nat) (time:Int) (w:World) (h_t:Rd w 9 (some a_t) [#[.int .i64 t.rules.Need,.int .i64 t.rules.Of,.int .i64 t.rules.Misses,.int .i64 t.rules.Accel,.int .i64 t.rules.Place,.int .i64 t.rules.Speed,.slice A_t_all t.all.length c_t_all,.int .i64 t.next,.int .i64 t.last]]) (hr_t_all:Rd w 23 A_t_all (t.all.map followed.c)) (_hl_t_all:t.all.length≤c_t_all) (hn:t.all.length≤64):Calls Tryz.prog 14 #[.pointer (some a_t),.int .i64 time] w (QW (Γ:=(Option Addr×Nat)) (cx w) (fun g=>.tuple #[.slice g.1 ((YQ t time).1.length) g.2,.int .i64 ((YQ t time).2)]) (fun g=>[.inr (Own g.1 g.2 44 20 (((YQ t time).1).map Za.c))])):=by
 have s_t_all:=hr_t_all.short;rw[List.length_map] at s_t_all
 refine Zk (vs:=[.pointer (some a_t),.i time]) (w:=w) Tryz.func14 rfl Tryz.ntmps14 rfl (TC.sr (TL.r 2 [] [(4,.slice none 0 0),(5,.i 0)] {} (TL.ns (TC.block (TC.sr (TL.r 3 [] [(14,.b (decide (time<0)))] {} (TL.j 14 (decide (time<0)) 6 [] [] (fun β=>[(17,.b (β||(decide (time>200000))))]) Kr {} {} (TL.r 7 [] [(11,.b ((decide (time<0))||(decide (time>200000))))] {} (TL.next rfl (TC.cond ((decide (time<0))||(decide (time>200000))) rfl Kr (fun h1=>?_) (fun h1=>?_)))))))))))
 ·refine TC.sr (TL.r 2 [] [(4,.slice none 0 0),(5,.i 4)] {} (TL.next rfl (TC.ret (TE.rb (TE.rt ?_)))))
  have e:YQ t time=([],4):=by unfold YQ;exact Zj h1 (rfl)
  refine TE.conv [Ow none 0 44 20 (([]:List Za).map Za.c)] (fun _ hM=>hM.emptyrow none 44 20) ?_
  rw[e]
  exact TE.retM (.inl rfl) (none,0) [] (.tuple #[.slice none 0 0,.i 4]) {} rfl (fun _ hM=>hM.sub (sb 1))
 ·have q1_0:=(Zq (Zt h1))
  have q1_1:=(Zq (ZR h1))
  refine TC.sr (TL.r 4 [] [(19,.i time),(22,.pointer (some (a_t.add 8)))] {} (TL.v (sV (Instr.loadAt 3 (.pointer (some (a_t.add 8))))) 23 (.i t.last) (fun w hM=>Zs (off:=8) (.i t.last) (h_t.sat hM) (Xv _) Kr Kr) {} (TL.r 7 [] [(18,.b (decide (time<t.last)))] {} (TL.next rfl (TC.cond (decide (time<t.last)) rfl Kr (fun h2=>?_) (fun h2=>?_))))))
  ·refine TC.sr (TL.r 2 [] [(4,.slice none 0 0),(5,.i 12)] {} (TL.next rfl (TC.ret (TE.rb (TE.rt ?_)))))
   have e:YQ t time=([],12):=by unfold YQ;exact Zb h1 (Zj h2 (rfl))
   refine TE.conv [Ow none 0 44 20 (([]:List Za).map Za.c)] (fun _ hM=>hM.emptyrow none 44 20) ?_
   rw[e]
   exact TE.retM (.inl rfl) (none,0) [] (.tuple #[.slice none 0 0,.i 12]) {} rfl (fun _ hM=>hM.sub (sb 1))
  ·have q2_0:=(Zq h2)
   refine TC.skip (TE.nb (TE.nr (TL.r 1 [] [(6,.slice none 0 0)] {} (TL.ns (TC.sr (TL.r 3 [] [(27,.pointer (some (a_t.add 6)))] {} (TL.v (sV (Instr.loadAt 116 (.pointer (some (a_t.add 6))))) 28 (.slice A_t_all t.all.length c_t_all) (fun w hM=>Zs (off:=6) (.slice A_t_all t.all.length c_t_all) (h_t.sat hM) (Xv _) Kr Kr) {} (TL.r 6 [] [(29,.i (t.all.length:Int)),(30,.i 0)] {} (TL.next rfl (TC.conv [Ow none 0 44 20 (([]:List Za).map Za.c)] (fun _ hM=>hM.emptyrow none 44 20) ?_))))))))))
   obtain⟨R4,hR⟩:∃ R,R=XM t time t.all 0 ([]:List Za):=⟨_,rfl⟩
   refine TC.cut (S:=(List Za)×(Option Addr)×Nat) (fun (out_2,A_out_2,c_out_2)=>[(6,.slice A_out_2 out_2.length c_out_2)]) (fun (out_2,A_out_2,c_out_2)=>[Ow A_out_2 c_out_2 44 20 (out_2.map Za.c)]) (fun (out_2,A_out_2,c_out_2)=>R4=out_2∧out_2.length≤t.all.length) ?_ ?_
   ·refine TC.block (TC.lw (X:=Nat×(List Za)×(Option Addr)×Nat) (fun (k,out,A_out,c_out)=>[(0,.pointer (some a_t)),(1,.i time),(6,.slice A_out out.length c_out),(28,.slice A_t_all t.all.length c_t_all),(29,.i (t.all.length:Int)),(30,.i (k:Int))]) (fun (k,out,A_out,c_out)=>[Ow A_out c_out 44 20 (out.map Za.c)]) (fun (k,out,A_out,c_out)=>t.all.length-k) (fun (k,out,A_out,c_out)=>k≤t.all.length∧R4=XM t time (t.all.drop k) k out∧out.length≤k) ?_ (0,([]:List Za),none,0) ⟨Nat.zero_le _,hR,sz⟩ Kr (sb 1))
    rintro⟨k,out,A_out,c_out⟩ ⟨hk,hI,hl_out⟩
    refine TC.sr (TL.r 1 [] [(31,.b (decide ((k:Int)<(t.all.length:Int))))] {} (TL.ns (TC.cond (decide ((k:Int)<(t.all.length:Int))) rfl Kr (fun h3=>?_) (fun h3=>?_))))
    ·have hlt:=ltN h3
     obtain⟨x,hx⟩:=elN hlt
     have hd:=drop_at hx
     refine TC.sn (TC.seq (TC.block (TC.sr (TL.v (sV (Instr.indexAt 116 (.slice A_t_all t.all.length c_t_all) (.i (k:Int)))) 32 (.pointer (some (Ix A_t_all (k*23)))) (fun w hM=>Zp (hr_t_all.sat hM) (by simp) Kr sd sd) {} (TL.v (sV (Instr.loadAt 122 (.pointer (some (Ix A_t_all (k*23)))))) 33 (followed.v x) (fun w hM=>Z6 (n:=23) (off:=0) (i:=k) (followed.v x) (hr_t_all.sat hM) (Z8 hx) Kr Kr Kr) {} (TL.nw 8 (fun b1=>.p0 b1) (fun b1=>Bk b1 (followed.c followed.zero) 122) (fun b1=>{}) (fun b1=>TL.s 0 (Bk b1 (followed.c x) 122) (fun _=>{}) (TL.ns ?_))))))))
     obtain⟨r1,hr1⟩:∃ r,Zo x.f time t.rules.Accel=r:=⟨_,rfl⟩
     let Mr9_:Mem:=[Bk b1 (followed.c x) 122,Ow A_out c_out 44 20 (out.map Za.c)]
     refine TC.plan (G:=Nat) (base:=[(0,.pointer (some a_t)),(1,.i time),(6,.slice A_out out.length c_out),(8,.p0 b1),(28,.slice A_t_all t.all.length c_t_all),(29,.i (t.all.length:Int)),(30,.i (k:Int))]) (vals:=fun γ=>[.p0 b1,Za.v x.f,.i time,.pointer (some a_t),.pointer (some a_t),.pointer (some a_t),.pointer (some (a_t.add 3)),.i t.rules.Accel,.tuple #[Za.v r1.1,.i r1.2],.tuple #[Za.v r1.1,.i r1.2],Za.v r1.1,.i r1.2,.p0 γ,undef,.i r1.2]) (writes:=[12,13]) (mem:=fun bs γ=>match bs with | [x12_,x13_]=>(bif x13_ then [Bk γ (Za.c r1.1) 44] else bif x12_ then [Bk γ (Za.c Za.zero) 44] else [])++(Mr9_)|_=>[]) (0) (fun γ=>[(0,.pointer (some a_t)),(1,.i time),(6,.slice A_out out.length c_out),(9,.p0 γ),(10,.i r1.2),(28,.slice A_t_all t.all.length c_t_all),(29,.i (t.all.length:Int)),(30,.i (k:Int))]) Kr Kr Kr Kr Kr (fun γ=>Kr) (fun _ hM=>hM) (fun γ=>Kr) ?_ ?_
     ·skip
      exact Steps.run (i:=0) 7 [0,0,0,0,0,0,0] Mr9_ Kr Kr (fun S (γ:Nat) w hM=>by rw[mS2 rfl rfl] at hM;exact hM.sub (Zl (List.Sublist.refl _))) Kr (fun (γ:Nat)=>{}) (Steps.val (i:=7) (fun (γ:Nat)=>sV (Instr.loadAt 3 (.pointer (some (a_t.add 3))))) (some 42) (fun (γ:Nat)=>.i t.rules.Accel) (fun _=>Mr9_) Kr (fun S (γ:Nat) w _ hM=>by rw[mS2 rfl rfl] at hM;exact hM.sub (Zl (List.Sublist.refl _))) (fun (γ:Nat) w hM=>Zs (off:=3) (.i t.rules.Accel) (h_t.sat hM) (Xv _) Kr Kr) (fun (γ:Nat)=>Kr) (fun (γ:Nat)=>Kr) (Steps.call (i:=8) 45 (fun (γ:Nat)=>#[Za.v x.f,.i time,.i t.rules.Accel]) (some 43) (fun (γ:Nat)=>.tuple #[Za.v r1.1,.i r1.2]) (fun (γ:Nat)=>[Bk b1 (followed.c x) 122,Ow A_out c_out 44 20 (out.map Za.c)]) Kr (fun S (γ:Nat) w _ hM=>by rw[mS2 rfl rfl] at hM;exact hM.sub (Zl (List.Sublist.refl _))) (fun (γ:Nat) w _=>by have h:=QR x.f time t.rules.Accel w;rw[hr1] at h;exact h) (fun (γ:Nat)=>Kr) (fun (γ:Nat)=>Kr) (Steps.run (i:=9) 12 [0,0,0] Mr9_ Kr Kr (fun S (γ:Nat) w hM=>by rw[mS2 rfl rfl] at hM;exact hM.sub (Zl (List.Sublist.refl _))) Kr (fun (γ:Nat)=>{}) (Steps.op (i:=12) (Γ:=Nat) (fun g (γ:Nat)=>g) (fun _=>[]) (fun b (γ:Nat)=>[Bk b (Za.c Za.zero) 44]) (fun S (γ:Nat)=>Mr9_) [12,13,14] (fun (γ:Nat)=>sV (Instr.alloc 44 true (.tuple #[]))) (some 9) (fun b (γ:Nat)=>.p0 b) (fun S (γ:Nat) hj hd hl=>by rw[mS2 hj (hl 13 Kr)];exact List.Perm.refl _) (fun S (γ:Nat) g hl=>by rw[mS2 (S:=upS S 12) (a0:=12) (a1:=13) rfl (hl 13 Kr)];exact(List.Perm.refl _).symm) (fun (γ:Nat) M' w hM=>Qd (v:=fun b=>.p0 b) (fun b M=>Kr) M' w hM) (fun (γ:Nat)=>Kr) (fun (γ:Nat) g=>Kr) Kr (fun (γ:Nat) g=>Kr) (Steps.put (i:=13) (fun (γ:Nat)=>[Bk γ (Za.c Za.zero) 44]) (fun (γ:Nat)=>[Bk γ (Za.c r1.1) 44]) (fun S (γ:Nat)=>Mr9_) (fun (γ:Nat)=>sU (Instr.storeAt 44 (.p0 γ) (Za.v r1.1))) none (fun S (γ:Nat) hj hd hl=>by rw[mS2 (hd 12 Kr) hj];exact List.Perm.refl _) (fun S (γ:Nat) _=>(List.Perm.refl _).symm) (fun (γ:Nat) M' w hM=>QD (fun b M=>Kr) (fun b M=>Kr) M' w hM) (fun (γ:Nat)=>Kr) (fun (γ:Nat)=>Kr) (Steps.run (i:=14) 15 [0] Mr9_ Kr Kr (fun S (γ:Nat) w hM=>by rw[mS2 rfl rfl] at hM;exact hM.sub (Zl (List.Sublist.refl _))) Kr (fun (γ:Nat)=>{}) (Steps.done Kr)))))))
     ·rintro b2
      refine TE.conv [Bk b2 (Za.c r1.1) 44,Bk b1 (followed.c x) 122,Ow A_out c_out 44 20 (out.map Za.c)] (fun _ hM=>hM) (TE.nr (TL.r 2 [] [(47,.b (r1.2==0))] {} (TL.next rfl (TC.cond (r1.2==0) rfl Kr (fun h4=>?_) (fun h4=>?_)))))
      ·have q4_0:=(Y7 h4)
       refine TC.region (TL.r 2 [0] [(48,.slice A_out out.length c_out),(49,Za.v r1.1)] {} (TL.nw 50 (fun b3=>.slice (Pa b3) 1 1) (fun b3=>Bk b3 (Za.c r1.1) 44) (fun b3=>{}) (fun b3=>TL.os (Γ:=AN) (sV (Builtin.append_ #[31,31] 31 #[.slice A_out out.length c_out,.slice (Pa b3) 1 1])) 51 (fun g=>.slice g.1 (out++([r1.1])).length g.2) 3 (fun g=>Ow g.1 g.2 44 20 ((out++([r1.1])).map Za.c)) (Qx (bytes:=160) 31 3 ([r1.1]) Kr rfl rfl Za.one rfl (fun w hM=>(Rd.lit hM 0 _ rfl Kr Kr Kr)) rfl sa) {} ?_)))
       rintro⟨A,c⟩
       exact TL.r 5 [] [(6,.slice A ((out++([r1.1])).length) c)] {} (TL.done rfl (TE.nb (TE.next (TC.region (TL.r 2 [] [(30,.i (w64 ((k:Int)+1)))] {} (TL.done rfl (TE.rw 30 (.i (w64 ((k:Int)+1))) (.i ((k+1:Nat):Int)) Kr (ZF k (by omega)) (TE.again (x:=(k,out,A_out,c_out)) (k+1,(out++([r1.1])),A,c) ⟨by omega,hI.trans (by subst hr1;rw[hd];exact Zj h4 (rfl)),sl⟩ (mN hlt) Kr (sb 8)))))))))
      ·have q4_0:=(ZQ h4)
       exact TC.skip (TE.nb (TE.next (TC.region (TL.r 2 [] [(30,.i (w64 ((k:Int)+1)))] {} (TL.done rfl (TE.rw 30 (.i (w64 ((k:Int)+1))) (.i ((k+1:Nat):Int)) Kr (ZF k (by omega)) (TE.again (x:=(k,out,A_out,c_out)) (k+1,out,A_out,c_out) ⟨by omega,hI.trans (by subst hr1;rw[hd];exact Zb h4 (rfl)),sl⟩ (mN hlt) Kr (sb 4))))))))
    ·have hd:=Qc h3
     refine TC.exit (TE.et (TE.et (TE.exit_same ?_)))
     exact TE.cut (out,A_out,c_out) (⟨hI.trans (by rw[hd];exact rfl),sl⟩) Kr (sb 1)
   ·rintro⟨out_2,A_out_2,c_out_2⟩ ⟨hJ,hl_out_2⟩
    refine TE.nr (TL.r 3 [] [(4,.slice A_out_2 out_2.length c_out_2),(5,.i 0)] {} (TL.next rfl (TC.ret ?_)))
    have e:YQ t time=(out_2,0):=by unfold YQ;exact Zb h1 (Zb h2 (Ye (hR.symm.trans hJ) (rfl)))
    rw[e]
    exact TE.retM (.inl rfl) (A_out_2,c_out_2) [] (.tuple #[.slice A_out_2 out_2.length c_out_2,.i 0]) {} rfl (fun _ hM=>hM.sub (sb 1))
def Zv (t:Ze):List followed→Nat→(List followed)→(List followed)
 | [],_,stay=>stay
 | x::xs,k,stay=>cond (x.f.Track.State==0) (
   let r1:=QJ x.history x.hit t.rules.Need t.rules.Of
   cond (r1.2.1==2) (
    Zv t xs (k+1) stay) (
    cond (r1.2.1==1) (
     Zv t xs (k+1) (stay++([(⟨⟨⟨x.f.Track.ID,1,x.f.Track.Time,x.f.Track.At,x.f.Track.Speed,x.f.Track.Height,x.f.Track.Rate,x.f.Track.Radius,x.f.Track.Code,x.f.Track.Hits,x.f.Track.Misses⟩,x.f.Slack,x.f.Last⟩,r1.1,x.hit⟩:followed)]))) (
     Zv t xs (k+1) (stay++([(⟨x.f,r1.1,x.hit⟩:followed)]))))) (
   Zv t xs (k+1) (stay++([x])))
def Zw (t:Ze):Ze :=
 Y6 (Zv t t.all 0 ([]:List followed)) (fun stay_2 =>
  (⟨t.rules,stay_2,t.next,t.last⟩:Ze))
set_option maxRecDepth 100000 in
theorem KY (b_t:Nat) (t:Ze) (A_t_all:Option Addr) (c_t_all:Nat) (w:World) (hM:Sat ⟨w,Xj [.inl (b_t,.cells (Ze.k t A_t_all c_t_all) 118 (0,0)),.inr (Own A_t_all c_t_all 122 23 (t.all.map followed.c))]⟩ [.inl (b_t,.cells (Ze.k t A_t_all c_t_all) 118 (0,0)),.inr (Own A_t_all c_t_all 122 23 (t.all.map followed.c))] w) (hn:t.all.length≤64):Calls Tryz.prog 57 #[.pointer (some ⟨b_t,0,none⟩)] w (QW (Γ:=(Option Addr×Nat)) ⟨w,Xj [.inl (b_t,.cells (Ze.k t A_t_all c_t_all) 118 (0,0)),.inr (Own A_t_all c_t_all 122 23 (t.all.map followed.c))]⟩ (fun _=>.tuple #[]) (fun g=>[.inl (b_t,.cells (Ze.k (⟨⟨(Zw t).rules.Need,(Zw t).rules.Of,(Zw t).rules.Misses,(Zw t).rules.Accel,(Zw t).rules.Place,(Zw t).rules.Speed⟩,(Zw t).all,(Zw t).next,(Zw t).last⟩:Ze) g.1 g.2) 118 (0,0)),.inr (Own g.1 g.2 122 23 (((Zw t).all).map followed.c))])):=by
 refine Yv (w0:=⟨w,Xj [Bk b_t (Ze.k t A_t_all c_t_all) 118,Ow A_t_all c_t_all 122 23 (t.all.map followed.c)]⟩) (vs:=[.p0 b_t]) hM Tryz.func57 rfl Tryz.ntmps57 rfl (TC.know (fun w hM=>hM.short_at 1 rfl) (fun s_t_all=>TC.sr (TL.r 1 [] [(2,.slice none 0 0)] {} (TL.ns (TC.sr (TL.r 6 [0] [(11,.slice A_t_all t.all.length c_t_all),(12,.i (t.all.length:Int)),(13,.i 0)] {} (TL.next rfl (TC.conv [Ow none 0 122 23 (([]:List followed).map followed.c),Bk b_t (Ze.k t A_t_all c_t_all) 118,Ow A_t_all c_t_all 122 23 (t.all.map followed.c)] (fun _ hM=>hM.emptyrow none 122 23) ?_))))))))
 obtain⟨R2,hR⟩:∃ R,R=Zv t t.all 0 ([]:List followed):=⟨_,rfl⟩
 refine TC.cut (S:=(List followed)×(Option Addr)×Nat) (fun (stay_2,A_stay_2,c_stay_2)=>[(0,.p0 b_t),(2,.slice A_stay_2 stay_2.length c_stay_2)]) (fun (stay_2,A_stay_2,c_stay_2)=>[Ow A_stay_2 c_stay_2 122 23 (stay_2.map followed.c),Bk b_t (Ze.k t A_t_all c_t_all) 118,Ow A_t_all c_t_all 122 23 (t.all.map followed.c)]) (fun (stay_2,A_stay_2,c_stay_2)=>R2=stay_2∧stay_2.length≤t.all.length) ?_ ?_
 ·refine TC.block (TC.lw (X:=Nat×(List followed)×(Option Addr)×Nat) (fun (k,stay,A_stay,c_stay)=>[(0,.p0 b_t),(2,.slice A_stay stay.length c_stay),(11,.slice A_t_all t.all.length c_t_all),(12,.i (t.all.length:Int)),(13,.i (k:Int))]) (fun (k,stay,A_stay,c_stay)=>[Ow A_stay c_stay 122 23 (stay.map followed.c),Bk b_t (Ze.k t A_t_all c_t_all) 118,Ow A_t_all c_t_all 122 23 (t.all.map followed.c)]) (fun (k,stay,A_stay,c_stay)=>t.all.length-k) (fun (k,stay,A_stay,c_stay)=>k≤t.all.length∧R2=Zv t (t.all.drop k) k stay∧stay.length≤k) ?_ (0,([]:List followed),none,0) ⟨Nat.zero_le _,hR,sz⟩ Kr (sb 7))
  rintro⟨k,stay,A_stay,c_stay⟩ ⟨hk,hI,hl_stay⟩
  refine TC.sr (TL.r 1 [] [(14,.b (decide ((k:Int)<(t.all.length:Int))))] {} (TL.ns (TC.cond (decide ((k:Int)<(t.all.length:Int))) rfl Kr (fun h1=>?_) (fun h1=>?_))))
  ·have hlt:=ltN h1
   obtain⟨x,hx⟩:=elN hlt
   have hd:=drop_at hx
   refine TC.sn (TC.seq (TC.block (TC.sr (TL.v (sV (Instr.indexAt 116 (.slice A_t_all t.all.length c_t_all) (.i (k:Int)))) 15 (.pointer (some (Ix A_t_all (k*23)))) (fun w hM=>Zp (hM.rd_at 2 rfl) (by simp) Kr sd sd) {} (TL.v (sV (Instr.loadAt 122 (.pointer (some (Ix A_t_all (k*23)))))) 16 (followed.v x) (fun w hM=>Z6 (n:=23) (off:=0) (i:=k) (followed.v x) (hM.rd_at 2 rfl) (Z8 hx) Kr Kr Kr) {} (TL.nw 4 (fun b1=>.p0 b1) (fun b1=>Bk b1 (followed.c followed.zero) 122) (fun b1=>{}) (fun b1=>TL.s 0 (Bk b1 (followed.c x) 122) (fun _=>{}) (TL.ns (TC.sr (TL.r 5 [0] [(21,.b (x.f.Track.State==0))] {} (TL.next rfl (TC.cond (x.f.Track.State==0) rfl Kr (fun h2=>?_) (fun h2=>?_)))))))))))))
   ·have q2_0:=(Y7 h2)
    refine TC.seq ?_
    obtain⟨r1,hr1⟩:∃ r,QJ x.history x.hit t.rules.Need t.rules.Of=r:=⟨_,rfl⟩
    let Mr5_:Mem:=[Bk b1 (followed.c x) 122,Ow A_stay c_stay 122 23 (stay.map followed.c),Bk b_t (Ze.k t A_t_all c_t_all) 118,Ow A_t_all c_t_all 122 23 (t.all.map followed.c)]
    refine TC.plan (G:=Nat) (base:=[(0,.p0 b_t),(2,.slice A_stay stay.length c_stay),(4,.p0 b1),(11,.slice A_t_all t.all.length c_t_all),(12,.i (t.all.length:Int)),(13,.i (k:Int))]) (vals:=fun γ=>[.pt b1 20,Zc.v x.history,.pt b1 22,.b x.hit,.p0 b_t,.p0 b_t,.p0 b_t,.p0 b_t,.i t.rules.Need,.p0 b_t,.p0 b_t,.p0 b_t,.pt b_t 1,.i t.rules.Of,.tuple #[Zc.v r1.1,.i r1.2.1,.i r1.2.2],.tuple #[Zc.v r1.1,.i r1.2.1,.i r1.2.2],Zc.v r1.1,.i r1.2.1,.i r1.2.2,.p0 γ,undef,.i r1.2.1,.i r1.2.2]) (writes:=[19,20]) (mem:=fun bs γ=>match bs with | [x19_,x20_]=>(bif x20_ then [Bk γ (Zc.c r1.1) 120] else bif x19_ then [Bk γ (Zc.c Zc.zero) 120] else [])++(Mr5_)|_=>[]) (0) (fun γ=>[(0,.p0 b_t),(2,.slice A_stay stay.length c_stay),(4,.p0 b1),(5,.p0 γ),(6,.i r1.2.1),(11,.slice A_t_all t.all.length c_t_all),(12,.i (t.all.length:Int)),(13,.i (k:Int))]) Kr Kr Kr Kr Kr (fun γ=>Kr) (fun _ hM=>hM) (fun γ=>Kr) ?_ ?_
    ·skip
     exact Steps.run (i:=0) 14 [0,0,0,0,0,0,0,0,2,0,0,0,0,2] Mr5_ Kr Kr (fun S (γ:Nat) w hM=>by rw[mS2 rfl rfl] at hM;exact hM.sub (Zl (List.Sublist.refl _))) Kr (fun (γ:Nat)=>{}) (Steps.call (i:=14) 113 (fun (γ:Nat)=>#[Zc.v x.history,.b x.hit,.i t.rules.Need,.i t.rules.Of]) (some 37) (fun (γ:Nat)=>.tuple #[Zc.v r1.1,.i r1.2.1,.i r1.2.2]) (fun (γ:Nat)=>[Bk b1 (followed.c x) 122,Ow A_stay c_stay 122 23 (stay.map followed.c),Bk b_t (Ze.k t A_t_all c_t_all) 118,Ow A_t_all c_t_all 122 23 (t.all.map followed.c)]) Kr (fun S (γ:Nat) w _ hM=>by rw[mS2 rfl rfl] at hM;exact hM.sub (Zl (List.Sublist.refl _))) (fun (γ:Nat) w _=>by have h:=Dl x.history x.hit t.rules.Need t.rules.Of w;rw[hr1] at h;exact h) (fun (γ:Nat)=>Kr) (fun (γ:Nat)=>Kr) (Steps.run (i:=15) 19 [0,0,0,0] Mr5_ Kr Kr (fun S (γ:Nat) w hM=>by rw[mS2 rfl rfl] at hM;exact hM.sub (Zl (List.Sublist.refl _))) Kr (fun (γ:Nat)=>{}) (Steps.op (i:=19) (Γ:=Nat) (fun g (γ:Nat)=>g) (fun _=>[]) (fun b (γ:Nat)=>[Bk b (Zc.c Zc.zero) 120]) (fun S (γ:Nat)=>Mr5_) [19,20,21,22] (fun (γ:Nat)=>sV (Instr.alloc 120 true (.tuple #[]))) (some 5) (fun b (γ:Nat)=>.p0 b) (fun S (γ:Nat) hj hd hl=>by rw[mS2 hj (hl 20 Kr)];exact List.Perm.refl _) (fun S (γ:Nat) g hl=>by rw[mS2 (S:=upS S 19) (a0:=19) (a1:=20) rfl (hl 20 Kr)];exact(List.Perm.refl _).symm) (fun (γ:Nat) M' w hM=>Qd (v:=fun b=>.p0 b) (fun b M=>Kr) M' w hM) (fun (γ:Nat)=>Kr) (fun (γ:Nat) g=>Kr) Kr (fun (γ:Nat) g=>Kr) (Steps.put (i:=20) (fun (γ:Nat)=>[Bk γ (Zc.c Zc.zero) 120]) (fun (γ:Nat)=>[Bk γ (Zc.c r1.1) 120]) (fun S (γ:Nat)=>Mr5_) (fun (γ:Nat)=>sU (Instr.storeAt 120 (.p0 γ) (Zc.v r1.1))) none (fun S (γ:Nat) hj hd hl=>by rw[mS2 (hd 19 Kr) hj];exact List.Perm.refl _) (fun S (γ:Nat) _=>(List.Perm.refl _).symm) (fun (γ:Nat) M' w hM=>QD (fun b M=>Kr) (fun b M=>Kr) M' w hM) (fun (γ:Nat)=>Kr) (fun (γ:Nat)=>Kr) (Steps.run (i:=21) 23 [0,0] Mr5_ Kr Kr (fun S (γ:Nat) w hM=>by rw[mS2 rfl rfl] at hM;exact hM.sub (Zl (List.Sublist.refl _))) Kr (fun (γ:Nat)=>{}) (Steps.done Kr))))))
    ·rintro b2
     refine TE.conv [Bk b2 (Zc.c r1.1) 120,Bk b1 (followed.c x) 122,Ow A_stay c_stay 122 23 (stay.map followed.c),Bk b_t (Ze.k t A_t_all c_t_all) 118,Ow A_t_all c_t_all 122 23 (t.all.map followed.c)] (fun _ hM=>hM) (TE.nr (TL.r 2 [0] [(41,Zc.v r1.1),(42,.pt b1 20)] {} (TL.s 1 (Bk b1 (followed.c (⟨x.f,r1.1,x.hit⟩:followed)) 122) (fun _=>{}) (TL.ns (TC.sr (TL.r 2 [] [(44,.b (r1.2.1==2))] {} (TL.next rfl (TC.cond (r1.2.1==2) rfl Kr (fun h3=>?_) (fun h3=>?_)))))))))
     ·have q3_0:=(Y7 h3)
      refine TC.exit (TE.et (TE.et (TE.exit_same ?_)))
      exact TE.next (TC.region (TL.r 2 [] [(13,.i (w64 ((k:Int)+1)))] {} (TL.done rfl (TE.rw 13 (.i (w64 ((k:Int)+1))) (.i ((k+1:Nat):Int)) Kr (ZF k (by omega)) (TE.again (x:=(k,stay,A_stay,c_stay)) (k+1,stay,A_stay,c_stay) ⟨by omega,hI.trans (by subst hr1;rw[hd];exact Zj h2 (Zj h3 (rfl))),sl⟩ (mN hlt) Kr (sb 28))))))
     ·have q3_0:=(ZQ h3)
      refine TC.snr (TL.r 2 [] [(46,.b (r1.2.1==1))] {} (TL.next rfl (TC.cond (r1.2.1==1) rfl Kr (fun h4=>?_) (fun h4=>?_))))
      ·have q4_0:=(Y7 h4)
       refine TC.region (TL.r 3 [] [(49,.pt b1 1)] {} (TL.s 1 (Bk b1 (followed.c (⟨⟨⟨x.f.Track.ID,1,x.f.Track.Time,x.f.Track.At,x.f.Track.Speed,x.f.Track.Height,x.f.Track.Rate,x.f.Track.Radius,x.f.Track.Code,x.f.Track.Hits,x.f.Track.Misses⟩,x.f.Slack,x.f.Last⟩,r1.1,x.hit⟩:followed)) 122) (fun _=>{}) (TL.next rfl (TC.region (TL.r 2 [1] [(50,.slice A_stay stay.length c_stay),(51,followed.v (⟨⟨⟨x.f.Track.ID,1,x.f.Track.Time,x.f.Track.At,x.f.Track.Speed,x.f.Track.Height,x.f.Track.Rate,x.f.Track.Radius,x.f.Track.Code,x.f.Track.Hits,x.f.Track.Misses⟩,x.f.Slack,x.f.Last⟩,r1.1,x.hit⟩:followed))] {} (TL.nw 52 (fun b3=>.slice (Pa b3) 1 1) (fun b3=>Bk b3 (followed.c (⟨⟨⟨x.f.Track.ID,1,x.f.Track.Time,x.f.Track.At,x.f.Track.Speed,x.f.Track.Height,x.f.Track.Rate,x.f.Track.Radius,x.f.Track.Code,x.f.Track.Hits,x.f.Track.Misses⟩,x.f.Slack,x.f.Last⟩,r1.1,x.hit⟩:followed)) 122) (fun b3=>{}) (fun b3=>TL.os (Γ:=AN) (sV (Builtin.append_ #[116,116] 116 #[.slice A_stay stay.length c_stay,.slice (Pa b3) 1 1])) 53 (fun g=>.slice g.1 (stay++([(⟨⟨⟨x.f.Track.ID,1,x.f.Track.Time,x.f.Track.At,x.f.Track.Speed,x.f.Track.Height,x.f.Track.Rate,x.f.Track.Radius,x.f.Track.Code,x.f.Track.Hits,x.f.Track.Misses⟩,x.f.Slack,x.f.Last⟩,r1.1,x.hit⟩:followed)])).length g.2) 3 (fun g=>Ow g.1 g.2 122 23 ((stay++([(⟨⟨⟨x.f.Track.ID,1,x.f.Track.Time,x.f.Track.At,x.f.Track.Speed,x.f.Track.Height,x.f.Track.Rate,x.f.Track.Radius,x.f.Track.Code,x.f.Track.Hits,x.f.Track.Misses⟩,x.f.Slack,x.f.Last⟩,r1.1,x.hit⟩:followed)])).map followed.c)) (Qx (bytes:=184) 116 3 ([(⟨⟨⟨x.f.Track.ID,1,x.f.Track.Time,x.f.Track.At,x.f.Track.Speed,x.f.Track.Height,x.f.Track.Rate,x.f.Track.Radius,x.f.Track.Code,x.f.Track.Hits,x.f.Track.Misses⟩,x.f.Slack,x.f.Last⟩,r1.1,x.hit⟩:followed)]) Kr rfl rfl followed.one rfl (fun w hM=>(Rd.lit hM 0 _ rfl Kr Kr Kr)) rfl sa) {} ?_)))))))
       rintro⟨A,c⟩
       exact TL.r 5 [] [(2,.slice A ((stay++([(⟨⟨⟨x.f.Track.ID,1,x.f.Track.Time,x.f.Track.At,x.f.Track.Speed,x.f.Track.Height,x.f.Track.Rate,x.f.Track.Radius,x.f.Track.Code,x.f.Track.Hits,x.f.Track.Misses⟩,x.f.Slack,x.f.Last⟩,r1.1,x.hit⟩:followed)])).length) c)] {} (TL.done rfl (TE.nb (TE.next (TC.region (TL.r 2 [] [(13,.i (w64 ((k:Int)+1)))] {} (TL.done rfl (TE.rw 13 (.i (w64 ((k:Int)+1))) (.i ((k+1:Nat):Int)) Kr (ZF k (by omega)) (TE.again (x:=(k,stay,A_stay,c_stay)) (k+1,(stay++([(⟨⟨⟨x.f.Track.ID,1,x.f.Track.Time,x.f.Track.At,x.f.Track.Speed,x.f.Track.Height,x.f.Track.Rate,x.f.Track.Radius,x.f.Track.Code,x.f.Track.Hits,x.f.Track.Misses⟩,x.f.Slack,x.f.Last⟩,r1.1,x.hit⟩:followed)])),A,c) ⟨by omega,hI.trans (by subst hr1;rw[hd];exact Zj h2 (Zb h3 (Zj h4 (rfl)))),sl⟩ (mN hlt) Kr (sb 56)))))))))
      ·have q4_0:=(ZQ h4)
       refine TC.sn (TC.region (TL.r 2 [1] [(50,.slice A_stay stay.length c_stay),(51,followed.v (⟨x.f,r1.1,x.hit⟩:followed))] {} (TL.nw 52 (fun b4=>.slice (Pa b4) 1 1) (fun b4=>Bk b4 (followed.c (⟨x.f,r1.1,x.hit⟩:followed)) 122) (fun b4=>{}) (fun b4=>TL.os (Γ:=AN) (sV (Builtin.append_ #[116,116] 116 #[.slice A_stay stay.length c_stay,.slice (Pa b4) 1 1])) 53 (fun g=>.slice g.1 (stay++([(⟨x.f,r1.1,x.hit⟩:followed)])).length g.2) 3 (fun g=>Ow g.1 g.2 122 23 ((stay++([(⟨x.f,r1.1,x.hit⟩:followed)])).map followed.c)) (Qx (bytes:=184) 116 3 ([(⟨x.f,r1.1,x.hit⟩:followed)]) Kr rfl rfl followed.one rfl (fun w hM=>(Rd.lit hM 0 _ rfl Kr Kr Kr)) rfl sa) {} ?_))))
       rintro⟨A_2,c_2⟩
       exact TL.r 5 [] [(2,.slice A_2 ((stay++([(⟨x.f,r1.1,x.hit⟩:followed)])).length) c_2)] {} (TL.done rfl (TE.nb (TE.next (TC.region (TL.r 2 [] [(13,.i (w64 ((k:Int)+1)))] {} (TL.done rfl (TE.rw 13 (.i (w64 ((k:Int)+1))) (.i ((k+1:Nat):Int)) Kr (ZF k (by omega)) (TE.again (x:=(k,stay,A_stay,c_stay)) (k+1,(stay++([(⟨x.f,r1.1,x.hit⟩:followed)])),A_2,c_2) ⟨by omega,hI.trans (by subst hr1;rw[hd];exact Zj h2 (Zb h3 (Zb h4 (rfl)))),sl⟩ (mN hlt) Kr (sb 56)))))))))
   ·have q2_0:=(ZQ h2)
    refine TC.sn (TC.region (TL.r 2 [0] [(50,.slice A_stay stay.length c_stay),(51,followed.v x)] {} (TL.nw 52 (fun b5=>.slice (Pa b5) 1 1) (fun b5=>Bk b5 (followed.c x) 122) (fun b5=>{}) (fun b5=>TL.os (Γ:=AN) (sV (Builtin.append_ #[116,116] 116 #[.slice A_stay stay.length c_stay,.slice (Pa b5) 1 1])) 53 (fun g=>.slice g.1 (stay++([x])).length g.2) 2 (fun g=>Ow g.1 g.2 122 23 ((stay++([x])).map followed.c)) (Qx (bytes:=184) 116 2 ([x]) Kr rfl rfl followed.one rfl (fun w hM=>(Rd.lit hM 0 _ rfl Kr Kr Kr)) rfl sa) {} ?_))))
    rintro⟨A_3,c_3⟩
    exact TL.r 5 [] [(2,.slice A_3 ((stay++([x])).length) c_3)] {} (TL.done rfl (TE.nb (TE.next (TC.region (TL.r 2 [] [(13,.i (w64 ((k:Int)+1)))] {} (TL.done rfl (TE.rw 13 (.i (w64 ((k:Int)+1))) (.i ((k+1:Nat):Int)) Kr (ZF k (by omega)) (TE.again (x:=(k,stay,A_stay,c_stay)) (k+1,(stay++([x])),A_3,c_3) ⟨by omega,hI.trans (by rw[hd];exact Zb h2 (rfl)),sl⟩ (mN hlt) Kr (sb 28)))))))))
  ·have hd:=Qc h1
   refine TC.exit (TE.et (TE.et (TE.exit_same ?_)))
   exact TE.cut (stay,A_stay,c_stay) (⟨hI.trans (by rw[hd];exact rfl),sl⟩) Kr (sb 7)
 ·rintro⟨stay_2,A_stay_2,c_stay_2⟩ ⟨hJ,hl_stay_2⟩
  refine TE.next (TC.region (TL.r 4 [] [(56,.slice A_stay_2 stay_2.length c_stay_2),(58,.pt b_t 6)] {} (TL.s 1 (Bk b_t (Ze.k (⟨t.rules,stay_2,t.next,t.last⟩:Ze) A_stay_2 c_stay_2) 118) (fun _=>{}) (TL.done rfl ?_))))
  have e:Zw t=(⟨t.rules,stay_2,t.next,t.last⟩:Ze):=by unfold Zw;exact Ye (hR.symm.trans hJ) (rfl)
  refine TE.conv [Bk b_t (Ze.k (⟨t.rules,stay_2,t.next,t.last⟩:Ze) A_stay_2 c_stay_2) 118,Ow A_stay_2 c_stay_2 122 23 (stay_2.map followed.c),Ow A_t_all c_t_all 122 23 (t.all.map followed.c)] (fun _ hM=>hM.perm (px [1,0,2])) ?_
  rw[e]
  exact TE.retM (.inr rfl) (A_stay_2,c_stay_2) [] (.tuple #[]) {} rfl (fun _ hM=>hM.sub (sb 3))
end Go.Sky
end
section
namespace Go.Eng
open Go.RowKit (Below)
theorem O4 {g:Option Addr} {c sz:Nat}:(if c=0 then g else g.map (fun a=>a.add (0*sz)))=g:=by
 split
 ·rfl
 ·cases g with
  | none=>rfl
  | some a=>rw[Nat.zero_mul];rfl
end Go.Eng
end
section
namespace Go.Eng
theorem He (z:Array Value) (n:Nat):(Builtin.zeroCells z n).toList=flat (List.replicate n z):=by
 rw[← Bv]
 unfold Builtin.zeroCells madeCells
 apply List.ext_getElem?
 intro j
 by_cases hj:j<n*z.size
 ·have h0:0<z.size:=by rcases Nat.eq_zero_or_pos z.size with h|h;(rw[h] at hj;omega);exact h
  have hmod:=Nat.mod_lt j h0
  simp[hj,hmod]
 ·rw[List.getElem?_eq_none (by simp;omega)]
theorem Dm {α:Type} {c:α→Array Value} (h1:∀ x,(c x).toList.all Value.oneCell'=true) (l:List α):∀ v∈flat (l.map c),v.oneCell'=true:=by
 intro v hv
 simp only[flat,List.map_map,List.mem_flatten,List.mem_map] at hv
 obtain⟨r,⟨x,_,rfl⟩,hr⟩:=hv
 exact List.all_eq_true.1 (h1 x) v hr
theorem Gm {α:Type} {c:α→Array Value} {P:Program} {w0:Ctx} {M:Mem} {t e sz bytes cap:Nat} {A A1:Option Addr} {l:List α} (x:α) (j k cap1 n ty:Nat) (hT:Ul P t e sz bytes=true)
  (hz:((P.info? e).bind (·.zero)).map Value.cells=some (c x)) (h1:∀ x,(c x).toList.all Value.oneCell'=true) (hj:M[j]?=some (.inr (Own A cap e sz (l.map c)))) (hA:A1=if cap=k then A else A.map (fun a=>a.add (k*sz)))
  (hn:n=l.length-k) (hk:k≤l.length) (w:World) (hM:Sat w0 M w) :
  ∃ (_:Unit) (w':World),(sV (Builtin.clear_ #[t] ty #[.slice A1 n cap1])).run P w=.ok (.value (.tuple #[])) w'∧Sat w0 (M.set j (.inr (Own A cap e sz ((l.take k++List.replicate (l.length-k) x).map c)))) w':=by
 subst hn
 obtain⟨hu,i,zv,hi,hzv,hs1,hs2,hs3⟩:=V7 hT
 have hz':zv.cells=c x:=by simpa[hi,hzv] using hz
 have hzero:(zeroValue e).run P w=.ok zv w:=by simp[zeroValue,typeInfo,hi,hzv]
 have hlen:(l.map c).length=l.length:=by simp
 have ho:=hM.own_at j hj
 rcases Nat.lt_or_ge k l.length with hkl|hkl
 ·rcases ho with ⟨_,h0⟩|⟨g,cur,ho⟩
  ·have:l=[]:=by simpa using h0
   subst this;simp at hkl
  ·have hAt:=ho.at_;subst hAt
   have hle:=ho.le;rw[hlen] at hle
   rw[if_neg (by omega)] at hA
   have hA1:A1=some ⟨g,k*sz,none⟩:=by rw[hA,Option.map_some,Kp]
   obtain⟨m,hm⟩:∃ m,l.length-k=m+1:=⟨l.length-k-1,by omega⟩
   have hall:∀ r∈List.replicate (l.length-k) (c x),r.size=sz:=fun r hr=>by rw[List.eq_of_mem_replicate hr,← hz',hs3]
   have hzs:(Builtin.zeroCells zv.cells (l.length-k)).toList=flat (List.replicate (l.length-k) (c x)):=by rw[He,hz']
   have hfl:(flat (List.replicate (l.length-k) (c x))).length=(l.length-k)*sz:=by rw[QC _ hall,List.length_replicate]
   have hsz:=ho.size
   have hlk:k*sz+(l.length-k)*sz=l.length*sz:=by rw[← Nat.add_mul];congr 1;omega
   have hcs:l.length*sz≤cur.size:=by rw[hsz];exact Nat.mul_le_mul_right _ hle
   have hone:∀ v∈flat (List.replicate (l.length-k) (c x)),v.oneCell'=true:=by
    have:=Dm h1 (List.replicate (l.length-k) x)
    rwa [List.map_replicate] at this
   have hst:=run_storeCells_at P g (k*sz) e (flat (List.replicate (l.length-k) (c x))) 0 cur w ho.heap (by omega) hone
   refine⟨(),w.setRow g (List.take (k*sz+0) cur.toList++flat (List.replicate (l.length-k) (c x))++List.drop (k*sz+0+(flat (List.replicate (l.length-k) (c x))).length) cur.toList).toArray,WB ?_,
    hM.step hj ⟨rfl,rfl,rfl,by simp[World.setRow],fun k' _ hk'=>setRow_other w g k' _ (fun e=>hk' ⟨ho.pos,_,rfl,e.symm⟩),Nat.le_refl _⟩ ?_ (fun b hb=>.inl hb)⟩
   ·rw[hA1]
    rw[hm] at hst hzs ⊢
    simp[Builtin.clear_,run_underlying hu,hzero,hzs,hst]
   ·refine .inr ⟨g,_,rfl,ho.pos,setRow_heap w g cur _ e _ ho.heap,?_,ho.max,?_,?_,?_,?_⟩
    ·simp;omega
    ·simp only[List.size_toArray,List.length_append,List.length_take,List.length_drop,Array.length_toList,hfl];omega
    ·have h6:=ho.holds
     rw[hlen] at h6
     have hL:((l.take k++List.replicate (l.length-k) x).map c).length*sz=l.length*sz:=by congr 1;simp;omega
     have hf1:flat ((l.take k++List.replicate (l.length-k) x).map c)=(flat (l.map c)).take (k*sz)++flat (List.replicate (l.length-k) (c x)):=by
      rw[List.map_append,Vb,List.map_replicate,GK _ _ ho.each,List.map_take]
     rw[hL,hf1,← h6]
     simp only[Nat.add_zero]
     rw[Wl _ _ _ _ (by omega) (by rw[Array.length_toList];omega)]
     rw[List.drop_eq_nil_of_le (by rw[List.length_take,hfl];omega),List.append_nil]
    ·intro r hr
     simp only[List.map_append,List.mem_append,List.map_replicate] at hr
     rcases hr with hr|hr
     ·exact ho.each r (by rw[List.map_take] at hr;exact List.mem_of_mem_take hr)
     ·exact hall r hr
    ·have:=ho.short
     simp at this ⊢;omega
 ·have hk0:l.length-k=0:=by omega
  rw[hk0]
  refine⟨(),w,WB ?_,?_⟩
  ·cases A1 <;> simp[Builtin.clear_,run_underlying hu]
  ·rw[List.replicate_zero,List.append_nil,List.take_of_length_le hkl]
   have:M.set j (.inr (Own A cap e sz (l.map c)))=M:=by
    obtain⟨hlt,he⟩:=List.getElem?_eq_some_iff.1 hj
    rw[← he];exact List.set_getElem_self hlt
   rw[this];exact hM
end Go.Eng
end
section
namespace Go.Sky
open Go Go.Eng Go.Proofs
def YV (f:Za) (x:followed):Bool :=
 f.Track.ID==x.f.Track.ID
set_option maxRecDepth 100000 in
theorem KN (f:Za) (a_x:Addr) (x:followed) (w:World) (h_x:Rd w 23 (some a_x) [followed.c x]):Calls Tryz.prog 118 #[Za.v f,.pointer (some a_x)] w (Ret w (.bool (YV f x))):=by
 exact Zk (vs:=[Za.v f,.pointer (some a_x)]) (w:=w) Tryz.func118 rfl Tryz.ntmps118 rfl (TC.sr (TL.nw 2 (fun b1=>.p0 b1) (fun b1=>Bk b1 (Za.c f) 44) (fun b1=>{}) (fun b1=>TL.r 2 [] [(3,.b false)] {} (TL.nr (TL.r 6 [0] [(6,.i f.Track.ID),(9,.pointer (some a_x))] {} (TL.v (sV (Instr.loadAt 3 (.pointer (some a_x)))) 10 (.i x.f.Track.ID) (fun w hM=>Zs (off:=0) (.i x.f.Track.ID) (h_x.sat hM) (Xv _) Kr Kr) {} (TL.r 9 [] [(3,.b (f.Track.ID==x.f.Track.ID))] {} (TL.next rfl (TC.ret (TE.ret [] (.b (f.Track.ID==x.f.Track.ID)) {} (by unfold YV;refine eS (fun z=>(.b z:Value)) ?_;exact rfl)))))))))))
def Q8 (c0:followed):List Za→Nat→((Unit) ⊕ (Int))
 | [],_=>.inl ()
 | x::xs,k=>let r1:=YV x c0
  cond r1 (
   .inr (k:Int)) (
   Q8 c0 xs (k+1))
def Jx (s:List Za) (c0:followed):Int :=
 Sum.elim (fun _ =>
  (-1)) (fun r=>r) (Q8 c0 s 0)
set_option maxRecDepth 100000 in
theorem Hf (A_s:Option Addr) (c_s:Nat) (s:List Za) (a_c0:Addr) (c0:followed) (w:World) (h_s:Rd w 20 A_s (s.map Za.c)) (_hc_s:s.length≤c_s) (h_c0:Rd w 23 (some a_c0) [followed.c c0]):Calls Tryz.prog 160 #[.slice A_s s.length c_s,.func (.func 118) #[] #[.pointer (some a_c0)]] w (Ret w (.int .i64 (Jx s c0))):=by
 have s_s:=h_s.short;rw[List.length_map] at s_s
 refine Zk (vs:=[.slice A_s s.length c_s,.func (.func 118) #[] #[.pointer (some a_c0)]]) (w:=w) Tryz.func160 rfl Tryz.ntmps160 rfl (TC.sr (TL.r 1 [] [(4,.i 0)] {} (TL.ns (TC.sr (TL.r 3 [] [(7,.i (s.length:Int)),(8,.i 0)] {} (TL.next rfl ?_))))))
 obtain⟨R1,hR⟩:∃ R,R=Q8 c0 s 0:=⟨_,rfl⟩
 refine TC.cut (S:=Unit) (fun (_:Unit)=>[]) (fun (_:Unit)=>[]) (fun (_:Unit)=>R1=.inl ()) ?_ ?_
 ·refine TC.block (TC.lw (X:=Nat) (fun k=>[(0,.slice A_s s.length c_s),(1,.func (.func 118) #[] #[.pointer (some a_c0)]),(7,.i (s.length:Int)),(8,.i (k:Int))]) (fun k=>[]) (fun k=>s.length-k) (fun k=>k≤s.length∧R1=Q8 c0 (s.drop k) k) ?_ 0 ⟨Nat.zero_le _,hR⟩ Kr (sb 0))
  rintro k ⟨hk,hI⟩
  refine TC.sr (TL.r 1 [] [(9,.b (decide ((k:Int)<(s.length:Int))))] {} (TL.ns (TC.cond (decide ((k:Int)<(s.length:Int))) rfl Kr (fun h1=>?_) (fun h1=>?_))))
  ·have hlt:=ltN h1
   obtain⟨x,hx⟩:=elN hlt
   have hd:=drop_at hx
   refine TC.sn (TC.seq (TC.block (TC.sr (TL.r 2 [] [(5,.i (k:Int))] {} (TL.nr (TL.r 3 [] [(11,.func (.func 118) #[] #[.pointer (some a_c0)]),(12,.slice A_s s.length c_s),(13,.i (k:Int))] {} (TL.v (sV (Instr.indexAt 31 (.slice A_s s.length c_s) (.i (k:Int)))) 14 (.pointer (some (Ix A_s (k*20)))) (fun w hM=>Zp (h_s.sat hM) (by simp) Kr sd sd) {} (TL.v (sV (Instr.loadAt 44 (.pointer (some (Ix A_s (k*20)))))) 15 (Za.v x) (fun w hM=>Z6 (n:=20) (off:=0) (i:=k) (Za.v x) (h_s.sat hM) (Z8 hx) Kr Kr Kr) {} (TL.c 16 (YV x c0) (fun r1=>.b r1) (fun w hM=>KN x a_c0 c0 w (h_c0.sat hM)) {} (fun r1 hr1=>TL.next rfl (TC.cond r1 rfl Kr (fun h2=>?_) (fun h2=>?_))))))))))))
   ·refine TC.sr (TL.r 2 [] [(4,.i (k:Int))] {} (TL.next rfl (TC.ret (TE.rb (TE.rt (TE.rt (TE.rb (TE.rt (TE.rt ?_)))))))))
    exact TE.ret [] (.i (k:Int)) {} (by unfold Jx;refine eS (fun z=>(.i z:Value)) ?_;subst hr1;exact X3 (hR.symm.trans (hI.trans (by rw[hd];exact Zj h2 (rfl)))) rfl)
   ·exact TC.skip (TE.nb (TE.next (TC.region (TL.r 2 [] [(8,.i (w64 ((k:Int)+1)))] {} (TL.done rfl (TE.rw 8 (.i (w64 ((k:Int)+1))) (.i ((k+1:Nat):Int)) Kr (ZF k (by omega)) (TE.again (x:=k) (k+1) ⟨by omega,hI.trans (by subst hr1;rw[hd];exact Zb h2 (rfl))⟩ (mN hlt) Kr (sb 0))))))))
  ·have hd:=Qc h1
   refine TC.exit (TE.et (TE.et (TE.exit_same ?_)))
   exact TE.cut () (hI.trans (by rw[hd];exact rfl)) Kr (sb 0)
 ·intro _ hJ
  exact TE.nr (TL.r 1 [] [(4,.i (-1))] {} (TL.next rfl (TC.ret (TE.ret [] (.i (-1)) {} (by unfold Jx;refine eS (fun z=>(.i z:Value)) ?_;exact Xk (hR.symm.trans hJ) (rfl))))))
def Jf (s:List Za) (c0:followed):Bool :=
 let r1:=Jx s c0
 decide (r1≥0)
set_option maxRecDepth 100000 in
theorem Gn (A_s:Option Addr) (c_s:Nat) (s:List Za) (a_c0:Addr) (c0:followed) (w:World) (h_s:Rd w 20 A_s (s.map Za.c)) (hc_s:s.length≤c_s) (h_c0:Rd w 23 (some a_c0) [followed.c c0]):Calls Tryz.prog 117 #[.slice A_s s.length c_s,.func (.func 118) #[] #[.pointer (some a_c0)]] w (Ret w (.bool (Jf s c0))):=by
 have s_s:=h_s.short;rw[List.length_map] at s_s
 exact Zk (vs:=[.slice A_s s.length c_s,.func (.func 118) #[] #[.pointer (some a_c0)]]) (w:=w) Tryz.func117 rfl Tryz.ntmps117 rfl (TC.sr (TL.r 1 [] [(4,.b false)] {} (TL.nr (TL.r 2 [] [(5,.slice A_s s.length c_s),(6,.func (.func 118) #[] #[.pointer (some a_c0)])] {} (TL.c 7 (Jx s c0) (fun r1=>.i r1) (fun w hM=>Hf A_s c_s s a_c0 c0 w (h_s.sat hM) hc_s (h_c0.sat hM)) {} (fun r1 hr1=>TL.r 5 [] [(4,.b (decide (r1≥0)))] {} (TL.next rfl (TC.ret (TE.ret [] (.b (decide (r1≥0))) {} (by unfold Jf;refine eS (fun z=>(.b z:Value)) ?_;subst hr1;exact rfl))))))))))
def Z3 (x:followed) (x_2:Int) (x_3:List Za):Bool :=
 cond (x.f.Track.Time==x_2) (
  let r1:=Jf x_3 x
  !r1) (
  false)
set_option maxRecDepth 100000 in
theorem J3 (x:followed) (a_x_2:Addr) (x_2:Int) (a_x_3:Addr) (A_x_3:Option Addr) (c_x_3:Nat) (x_3:List Za) (w:World) (h_x_2:Rd w 1 (some a_x_2) [ic x_2]) (h_x_3:Rd w 1 (some a_x_3) [Sl.c (⟨A_x_3,c_x_3,x_3⟩:Sl Za)]) (hd_x_3:(⟨A_x_3,c_x_3,x_3⟩:Sl Za).rd w 20 Za.c):Calls Tryz.prog 116 #[followed.v x,.pointer (some a_x_2),.pointer (some a_x_3)] w (Ret w (.bool (Z3 x x_2 x_3))):=by
 refine Zk (vs:=[followed.v x,.pointer (some a_x_2),.pointer (some a_x_3)]) (w:=w) Tryz.func116 rfl Tryz.ntmps116 rfl (TC.sr (TL.nw 3 (fun b1=>.p0 b1) (fun b1=>Bk b1 (followed.c x) 122) (fun b1=>{}) (fun b1=>TL.r 2 [] [(4,.b false)] {} (TL.nr (TL.r 4 [0] [(8,.i x.f.Track.Time)] {} (TL.v (sV (Instr.loadAt 3 (.pointer (some a_x_2)))) 9 (.i x_2) (fun w hM=>Zs (off:=0) (.i x_2) (h_x_2.sat hM) (Xv _) Kr Kr) {} (TL.r 7 [] [(11,.b (x.f.Track.Time==x_2))] {} (TL.split 11 (x.f.Track.Time==x_2) Kr (fun h1=>?_) (fun h1=>?_)))))))))
 ·exact TL.v (sV (Instr.loadAt 31 (.pointer (some a_x_3)))) 12 (.slice A_x_3 x_3.length c_x_3) (fun w hM=>Zs (off:=0) (.slice A_x_3 x_3.length c_x_3) (h_x_3.sat hM) (Xv _) Kr Kr) {} (TL.r 9 [] [(13,.func (.func 118) #[] #[.p0 b1])] {} (TL.c 14 (Jf x_3 x) (fun r1=>.b r1) (fun w hM=>Gn A_x_3 c_x_3 x_3 ⟨b1,0,none⟩ x w (hd_x_3.rd.sat hM) hd_x_3.le (Rd.lit hM 0 _ rfl Kr Kr Kr)) {} (fun r1 hr1=>TL.r 13 [] [(4,.b (!r1))] {} (TL.next rfl (TC.ret (TE.ret [] (.b (!r1)) {} (by unfold Z3;refine eS (fun z=>(.b z:Value)) ?_;subst hr1;exact Zj h1 (rfl))))))))
 ·exact TL.r 13 [] [(4,.b false)] {} (TL.next rfl (TC.ret (TE.ret [] (.b false) {} (by unfold Z3;refine eS (fun z=>(.b z:Value)) ?_;exact Zb h1 (rfl)))))
def YJ (c0:Int) (c1:List Za):List followed→Nat→((Unit) ⊕ (Int))
 | [],_=>.inl ()
 | x::xs,k=>let r1:=Z3 x c0 c1
  cond r1 (
   .inr (k:Int)) (
   YJ c0 c1 xs (k+1))
def XW (s:List followed) (c0:Int) (c1:List Za):Int :=
 Sum.elim (fun _ =>
  (-1)) (fun r=>r) (YJ c0 c1 s 0)
set_option maxRecDepth 100000 in
theorem GO (A_s:Option Addr) (c_s:Nat) (s:List followed) (a_c0:Addr) (c0:Int) (a_c1:Addr) (A_c1:Option Addr) (c_c1:Nat) (c1:List Za) (w:World) (h_s:Rd w 23 A_s (s.map followed.c)) (_hc_s:s.length≤c_s) (h_c0:Rd w 1 (some a_c0) [ic c0]) (h_c1:Rd w 1 (some a_c1) [Sl.c (⟨A_c1,c_c1,c1⟩:Sl Za)]) (hd_c1:(⟨A_c1,c_c1,c1⟩:Sl Za).rd w 20 Za.c):Calls Tryz.prog 159 #[.slice A_s s.length c_s,.func (.func 116) #[] #[.pointer (some a_c0),.pointer (some a_c1)]] w (Ret w (.int .i64 (XW s c0 c1))):=by
 have s_s:=h_s.short;rw[List.length_map] at s_s
 refine Zk (vs:=[.slice A_s s.length c_s,.func (.func 116) #[] #[.pointer (some a_c0),.pointer (some a_c1)]]) (w:=w) Tryz.func159 rfl Tryz.ntmps159 rfl (TC.sr (TL.r 1 [] [(4,.i 0)] {} (TL.ns (TC.sr (TL.r 3 [] [(7,.i (s.length:Int)),(8,.i 0)] {} (TL.next rfl ?_))))))
 obtain⟨R1,hR⟩:∃ R,R=YJ c0 c1 s 0:=⟨_,rfl⟩
 refine TC.cut (S:=Unit) (fun (_:Unit)=>[]) (fun (_:Unit)=>[]) (fun (_:Unit)=>R1=.inl ()) ?_ ?_
 ·refine TC.block (TC.lw (X:=Nat) (fun k=>[(0,.slice A_s s.length c_s),(1,.func (.func 116) #[] #[.pointer (some a_c0),.pointer (some a_c1)]),(7,.i (s.length:Int)),(8,.i (k:Int))]) (fun k=>[]) (fun k=>s.length-k) (fun k=>k≤s.length∧R1=YJ c0 c1 (s.drop k) k) ?_ 0 ⟨Nat.zero_le _,hR⟩ Kr (sb 0))
  rintro k ⟨hk,hI⟩
  refine TC.sr (TL.r 1 [] [(9,.b (decide ((k:Int)<(s.length:Int))))] {} (TL.ns (TC.cond (decide ((k:Int)<(s.length:Int))) rfl Kr (fun h1=>?_) (fun h1=>?_))))
  ·have hlt:=ltN h1
   obtain⟨x,hx⟩:=elN hlt
   have hd:=drop_at hx
   refine TC.sn (TC.seq (TC.block (TC.sr (TL.r 2 [] [(5,.i (k:Int))] {} (TL.nr (TL.r 3 [] [(11,.func (.func 116) #[] #[.pointer (some a_c0),.pointer (some a_c1)]),(12,.slice A_s s.length c_s),(13,.i (k:Int))] {} (TL.v (sV (Instr.indexAt 116 (.slice A_s s.length c_s) (.i (k:Int)))) 14 (.pointer (some (Ix A_s (k*23)))) (fun w hM=>Zp (h_s.sat hM) (by simp) Kr sd sd) {} (TL.v (sV (Instr.loadAt 122 (.pointer (some (Ix A_s (k*23)))))) 15 (followed.v x) (fun w hM=>Z6 (n:=23) (off:=0) (i:=k) (followed.v x) (h_s.sat hM) (Z8 hx) Kr Kr Kr) {} (TL.c 16 (Z3 x c0 c1) (fun r1=>.b r1) (fun w hM=>J3 x a_c0 c0 a_c1 A_c1 c_c1 c1 w (h_c0.sat hM) (h_c1.sat hM) (hd_c1.sat hM)) {} (fun r1 hr1=>TL.next rfl (TC.cond r1 rfl Kr (fun h2=>?_) (fun h2=>?_))))))))))))
   ·refine TC.sr (TL.r 2 [] [(4,.i (k:Int))] {} (TL.next rfl (TC.ret (TE.rb (TE.rt (TE.rt (TE.rb (TE.rt (TE.rt ?_)))))))))
    exact TE.ret [] (.i (k:Int)) {} (by unfold XW;refine eS (fun z=>(.i z:Value)) ?_;subst hr1;exact X3 (hR.symm.trans (hI.trans (by rw[hd];exact Zj h2 (rfl)))) rfl)
   ·exact TC.skip (TE.nb (TE.next (TC.region (TL.r 2 [] [(8,.i (w64 ((k:Int)+1)))] {} (TL.done rfl (TE.rw 8 (.i (w64 ((k:Int)+1))) (.i ((k+1:Nat):Int)) Kr (ZF k (by omega)) (TE.again (x:=k) (k+1) ⟨by omega,hI.trans (by subst hr1;rw[hd];exact Zb h2 (rfl))⟩ (mN hlt) Kr (sb 0))))))))
  ·have hd:=Qc h1
   refine TC.exit (TE.et (TE.et (TE.exit_same ?_)))
   exact TE.cut () (hI.trans (by rw[hd];exact rfl)) Kr (sb 0)
 ·intro _ hJ
  exact TE.nr (TL.r 1 [] [(4,.i (-1))] {} (TL.next rfl (TC.ret (TE.ret [] (.i (-1)) {} (by unfold XW;refine eS (fun z=>(.i z:Value)) ?_;exact Xk (hR.symm.trans hJ) (rfl))))))
def X4 (c0:Int) (c1:List Za) (r1:Int):Nat→Nat→Int→(List followed)→(Int×List followed)
 | 0,_,i,s_2=>(i,s_2)
 | m+1,k,i,s_2=>let r2:=Z3 (s_2[((r1+1)+(k:Int)).toNat]?.getD followed.zero) c0 c1
  cond (!r2) (
   X4 c0 c1 r1 m (k+1) (w64 (i+1)) (s_2.set i.toNat (s_2[((r1+1)+(k:Int)).toNat]?.getD followed.zero))) (
   X4 c0 c1 r1 m (k+1) i s_2)
def Xh (s:List followed) (c0:Int) (c1:List Za):(List followed) :=
 let r1:=XW s c0 c1
 cond (r1==(-1)) (
  s) (
  Y6 (X4 c0 c1 r1 (((s.length:Int)-(r1+1)).toNat) 0 r1 s) (fun (i_2,s_3) =>
   ((s_3.take i_2.toNat++List.replicate (s_3.length-i_2.toNat) followed.zero).take i_2.toNat)))
theorem LF (c0:Int) (c1:List Za):∀ (l:List followed) (k:Nat),YJ c0 c1 l k=.inl ()∨∃ j:Nat,YJ c0 c1 l k=.inr (j:Int)∧j<k+l.length
 | [],k=>.inl rfl
 | x::xs,k=>by
  unfold YJ
  simp only
  cases Z3 x c0 c1 with
  | true=>exact .inr ⟨k,rfl,by simp⟩
  | false =>
   rcases LF c0 c1 xs (k+1) with h|⟨j,h,hj⟩
   ·exact .inl h
   ·exact .inr ⟨j,h,by simp only[List.length_cons];omega⟩
theorem YC {l:List followed} {c0:Int} {c1:List Za} {r:Int} (h:XW l c0 c1=r) (h1:(r==(-1))=false):0≤r∧r<(l.length:Int):=by
 subst h
 unfold XW at *
 rcases LF c0 c1 l 0 with h2|⟨j,h2,hj⟩
 ·rw[h2] at h1;cases h1
 ·rw[h2];show 0≤(j:Int)∧(j:Int)<_;omega
set_option maxRecDepth 100000 in
theorem Gp (A_s:Option Addr) (c_s:Nat) (s:List followed) (b_c0:Nat) (c0:Int) (b_c1:Nat) (A_c1:Option Addr) (c_c1:Nat) (c1:List Za) (w:World) (hM:Sat ⟨w,Xj [.inr (Own A_s c_s 122 23 (s.map followed.c)),.inl (b_c0,.cells #[.int .i64 c0] 3 (0,0)),.inl (b_c1,.cells #[.slice A_c1 c1.length c_c1] 31 (0,0)),.inr (Own A_c1 c_c1 44 20 (c1.map Za.c))]⟩ [.inr (Own A_s c_s 122 23 (s.map followed.c)),.inl (b_c0,.cells #[.int .i64 c0] 3 (0,0)),.inl (b_c1,.cells #[.slice A_c1 c1.length c_c1] 31 (0,0)),.inr (Own A_c1 c_c1 44 20 (c1.map Za.c))] w):Calls Tryz.prog 115 #[.slice A_s s.length c_s,.func (.func 116) #[] #[.pointer (some ⟨b_c0,0,none⟩),.pointer (some ⟨b_c1,0,none⟩)]] w (QW (Γ:=Unit) ⟨w,Xj [.inr (Own A_s c_s 122 23 (s.map followed.c)),.inl (b_c0,.cells #[.int .i64 c0] 3 (0,0)),.inl (b_c1,.cells #[.slice A_c1 c1.length c_c1] 31 (0,0)),.inr (Own A_c1 c_c1 44 20 (c1.map Za.c))]⟩ (fun _=>.slice A_s ((Xh s c0 c1).length) c_s) (fun _=>[.inr (Own A_s c_s 122 23 ((Xh s c0 c1).map followed.c)),.inl (b_c0,.cells #[.int .i64 c0] 3 (0,0)),.inl (b_c1,.cells #[.slice A_c1 c1.length c_c1] 31 (0,0)),.inr (Own A_c1 c_c1 44 20 (c1.map Za.c))])):=by
 refine Yv (w0:=⟨w,Xj [Ow A_s c_s 122 23 (s.map followed.c),Bk b_c0 #[.i c0] 3,Bk b_c1 #[.slice A_c1 c1.length c_c1] 31,Ow A_c1 c_c1 44 20 (c1.map Za.c)]⟩) (vs:=[.slice A_s s.length c_s,.func (.func 116) #[] #[.p0 b_c0,.p0 b_c1]]) hM Tryz.func115 rfl Tryz.ntmps115 rfl (TC.know (fun w hM=>hM.short_at 0 rfl) (fun s_s=>TC.know (fun w hM=>hM.short_at 3 rfl) (fun s_c1=>TC.sr (TL.r 1 [] [(4,.slice none 0 0)] {} (TL.nr (TL.r 2 [] [(8,.slice A_s s.length c_s),(9,.func (.func 116) #[] #[.p0 b_c0,.p0 b_c1])] {} (TL.c 10 (XW s c0 c1) (fun r1=>.i r1) (fun w hM=>GO A_s c_s s ⟨b_c0,0,none⟩ c0 ⟨b_c1,0,none⟩ A_c1 c_c1 c1 w (hM.rd_at 0 rfl) (hM.le_at 0 rfl) (Rd.lit hM 1 _ rfl Kr Kr Kr) (Rd.lit hM 2 _ rfl Kr Kr Kr) ⟨(hM.rd_at 3 rfl),(hM.le_at 3 rfl)⟩) {} (fun r1 hr1=>TL.r 4 [] [(5,.i r1)] {} (TL.ns (TC.sr (TL.r 2 [] [(12,.b (r1==(-1)))] {} (TL.next rfl (TC.cond (r1==(-1)) rfl Kr (fun h1=>?_) (fun h1=>?_))))))))))))))
 ·refine TC.sr (TL.r 2 [] [(4,.slice A_s s.length c_s)] {} (TL.next rfl (TC.ret (TE.rt ?_))))
  have e:Xh s c0 c1=s:=by subst hr1;unfold Xh;exact Zj h1 (rfl)
  rw[e]
  exact TE.retM (.inl rfl) () [] (.slice A_s s.length c_s) {} rfl (fun _ hM=>hM.sub (sb 15))
 ·have q1_0:=(ZQ h1)
  refine TC.sn (TC.seq (TC.sr (TL.r 3 [] [(6,.i (w64 (r1+1)))] {} (TL.next rfl ?_))))
  obtain⟨R1,hR⟩:∃ R,R=X4 c0 c1 r1 (((s.length:Int)-(r1+1)).toNat) 0 r1 s:=⟨_,rfl⟩
  refine TC.cut (S:=Int×(List followed)) (fun (i_2,s_3)=>[(0,.slice A_s s_3.length c_s),(5,.i i_2)]) (fun (i_2,s_3)=>[Ow A_s c_s 122 23 (s_3.map followed.c),Bk b_c0 #[.i c0] 3,Bk b_c1 #[.slice A_c1 c1.length c_c1] 31,Ow A_c1 c_c1 44 20 (c1.map Za.c)]) (fun (i_2,s_3)=>R1=(i_2,s_3)∧s_3.length=s.length∧(0≤i_2∧i_2≤(s.length:Int))) ?_ ?_
  ·refine TC.block (TC.rw 6 (.i (w64 (r1+1))) (.i ((r1+1)+((0:Nat):Int))) Kr (int_eq (by (try have kx_:=YC hr1 h1);have kx_:=YC hr1 h1;first|omega|(rw[Zn (by omega)];omega)|(simp only[Yi];omega))) (TC.lw (X:=Nat×Int×(List followed)) (fun (k,i,s_2)=>[(0,.slice A_s s_2.length c_s),(1,.func (.func 116) #[] #[.p0 b_c0,.p0 b_c1]),(5,.i i),(6,.i ((r1+1)+(k:Int)))]) (fun (k,i,s_2)=>[Ow A_s c_s 122 23 (s_2.map followed.c),Bk b_c0 #[.i c0] 3,Bk b_c1 #[.slice A_c1 c1.length c_c1] 31,Ow A_c1 c_c1 44 20 (c1.map Za.c)]) (fun (k,i,s_2)=>(((s.length:Int)-(r1+1)).toNat)-k) (fun (k,i,s_2)=>k≤(((s.length:Int)-(r1+1)).toNat)∧R1=X4 c0 c1 r1 ((((s.length:Int)-(r1+1)).toNat)-k) k i s_2∧s_2.length=s.length∧(0≤i∧i≤r1+(k:Int))) ?_ (0,r1,s) ⟨Nat.zero_le _,hR,sz,(by (try have kx_:=YC hr1 h1);exact sz)⟩ Kr (sb 15)))
   rintro⟨k,i,s_2⟩ ⟨hk,hI,hl_s_2,hl_iv0⟩
   refine TC.seq (TC.sr (TL.r 4 [] [(19,.b (decide (((r1+1)+(k:Int))<(s_2.length:Int))))] {} (TL.next rfl (TC.cond (decide (((r1+1)+(k:Int))<(s_2.length:Int))) rfl Kr (fun h2=>?_) (fun h2=>?_)))))
   ·have hlt:k<(((s.length:Int)-(r1+1)).toNat):=by (try have kx_:=YC hr1 h1);have p0_:=(Z1 h2);have kx_:=YC hr1 h1;first|omega|(simp only[Yi] at *;omega)
    have hd:(((s.length:Int)-(r1+1)).toNat)-k=((((s.length:Int)-(r1+1)).toNat)-(k+1))+1:=by omega
    have q2_0:=(Z1 h2)
    refine TC.sn (TC.seq (TC.block (TC.sr (TL.r 2 [] [(22,.slice A_s s_2.length c_s),(23,.i ((r1+1)+(k:Int)))] {} (TL.v (sV (Instr.indexAt 116 (.slice A_s s_2.length c_s) (.i ((r1+1)+(k:Int))))) 24 (.pointer (some ((A_s.getD Yc).add (((r1+1)+(k:Int)).toNat*23)))) (fun w hM=>Zp (hM.rd_at 0 rfl) (by simp) Kr (by (try have kx_:=YC hr1 h1);exact sd) (by (try have kx_:=YC hr1 h1);exact sd)) {} (TL.v (sV (Instr.loadAt 122 (.pointer (some ((A_s.getD Yc).add (((r1+1)+(k:Int)).toNat*23)))))) 25 (followed.v (s_2[((r1+1)+(k:Int)).toNat]?.getD followed.zero)) (fun w hM=>Z6 (n:=23) (off:=0) (i:=((r1+1)+(k:Int)).toNat) (followed.v (s_2[((r1+1)+(k:Int)).toNat]?.getD followed.zero)) (hM.rd_at 0 rfl) (Z8 (getD_at _ _ followed.zero (by (try have kx_:=YC hr1 h1);exact sd))) Kr Kr Kr) {} (TL.nw 7 (fun b1=>.p0 b1) (fun b1=>Bk b1 (followed.c followed.zero) 122) (fun b1=>{}) (fun b1=>TL.s 0 (Bk b1 (followed.c (s_2[((r1+1)+(k:Int)).toNat]?.getD followed.zero)) 122) (fun _=>{}) (TL.nr (TL.r 2 [0] [(26,.func (.func 116) #[] #[.p0 b_c0,.p0 b_c1]),(27,followed.v (s_2[((r1+1)+(k:Int)).toNat]?.getD followed.zero))] {} (TL.c 28 (Z3 (s_2[((r1+1)+(k:Int)).toNat]?.getD followed.zero) c0 c1) (fun r2=>.b r2) (fun w hM=>J3 (s_2[((r1+1)+(k:Int)).toNat]?.getD followed.zero) ⟨b_c0,0,none⟩ c0 ⟨b_c1,0,none⟩ A_c1 c_c1 c1 w (Rd.lit hM 2 _ rfl Kr Kr Kr) (Rd.lit hM 3 _ rfl Kr Kr Kr) ⟨(hM.rd_at 4 rfl),(hM.le_at 4 rfl)⟩) {} (fun r2 hr2=>TL.r 4 [] [(29,.b (!r2))] {} (TL.next rfl (TC.cond (!r2) rfl Kr (fun h3=>?_) (fun h3=>?_)))))))))))))))
    ·exact TC.sr (TL.r 3 [0] [(30,.slice A_s s_2.length c_s),(31,.i i),(32,followed.v (s_2[((r1+1)+(k:Int)).toNat]?.getD followed.zero))] {} (TL.v (sV (Instr.indexAt 116 (.slice A_s s_2.length c_s) (.i i))) 33 (.pointer (some (Ix A_s (i.toNat*23)))) (fun w hM=>Zp (hM.rd_at 1 rfl) (by simp) Kr (by (try have kx_:=YC hr1 h1);exact sd) (by (try have kx_:=YC hr1 h1);exact sd)) {} (TL.ks (Γ:=Unit) (sU (Instr.storeAt 122 (.pointer (some ((Ix A_s (i.toNat*23)).add 0))) (followed.v (s_2[((r1+1)+(k:Int)).toNat]?.getD followed.zero)))) 1 (Ow A_s c_s 122 23 ((s_2.set i.toNat (s_2[((r1+1)+(k:Int)).toNat]?.getD followed.zero)).map followed.c)) (Yw (n:=23) (off:=0) (followed.v (s_2[((r1+1)+(k:Int)).toNat]?.getD followed.zero)) 1 ((s_2.set i.toNat (s_2[((r1+1)+(k:Int)).toNat]?.getD followed.zero)).map followed.c) rfl (Z8 (getD_at _ _ followed.zero (by (try have kx_:=YC hr1 h1);exact sd))) Kr Kr Kr Kr (Xa Kr)) Kr (TL.rw 0 (.slice A_s s_2.length c_s) (.slice A_s ((s_2.set i.toNat (s_2[((r1+1)+(k:Int)).toNat]?.getD followed.zero)).length) c_s) Kr (by simp only[List.length_set]) (TL.next rfl (TC.region (TL.r 3 [] [(5,.i (w64 (i+1)))] {} (TL.done rfl (TE.nb (TE.next (TC.region (TL.r 3 [] [(6,.i (w64 (((r1+1)+(k:Int))+1)))] {} (TL.done rfl (TE.rw 6 (.i (w64 (((r1+1)+(k:Int))+1))) (.i ((r1+1)+((k+1:Nat):Int))) Kr (int_eq (by (try have kx_:=YC hr1 h1);have kx_:=YC hr1 h1;first|omega|(rw[Zn (by omega)];omega)|(simp only[Yi] at *;omega))) (TE.again (x:=(k,i,s_2)) (k+1,w64 (i+1),(s_2.set i.toNat (s_2[((r1+1)+(k:Int)).toNat]?.getD followed.zero))) ⟨by omega,hI.trans (by subst hr1 hr2;rw[hd];exact Zj h3 (rfl)),(by (try have kx_:=YC hr1 h1);exact sl),(by (try have kx_:=YC hr1 h1);exact sl)⟩ (mN hlt) Kr (sb 30))))))))))))))))
    ·exact TC.skip (TE.nb (TE.next (TC.region (TL.r 3 [] [(6,.i (w64 (((r1+1)+(k:Int))+1)))] {} (TL.done rfl (TE.rw 6 (.i (w64 (((r1+1)+(k:Int))+1))) (.i ((r1+1)+((k+1:Nat):Int))) Kr (int_eq (by (try have kx_:=YC hr1 h1);have kx_:=YC hr1 h1;first|omega|(rw[Zn (by omega)];omega)|(simp only[Yi] at *;omega))) (TE.again (x:=(k,i,s_2)) (k+1,i,s_2) ⟨by omega,hI.trans (by subst hr1 hr2;rw[hd];exact Zb h3 (rfl)),(by (try have kx_:=YC hr1 h1);exact sl),(by (try have kx_:=YC hr1 h1);exact sl)⟩ (mN hlt) Kr (sb 30))))))))
   ·have hd:(((s.length:Int)-(r1+1)).toNat)-k=0:=by (try have kx_:=YC hr1 h1);have p0_:=(Zq h2);have kx_:=YC hr1 h1;first|omega|(simp only[Yi] at *;omega)
    refine TC.exit (TE.et (TE.et (TE.exit_same ?_)))
    exact TE.cut (i,s_2) (⟨hI.trans (by subst hr1;rw[hd];exact rfl),(by (try have kx_:=YC hr1 h1);exact sl),(by (try have kx_:=YC hr1 h1);exact sl)⟩) Kr (sb 15)
  ·rintro⟨i_2,s_3⟩ ⟨hJ,hl_s_3,hl_ov0_0⟩
   refine TE.nr (TL.r 2 [] [(36,.slice A_s s_3.length c_s),(37,.i i_2)] {} ?_)
   obtain⟨A1,hA1⟩:∃ A0_,A0_=(if c_s=i_2.toNat then A_s else A_s.map (fun a=>a.add (i_2.toNat*23))):=⟨_,rfl⟩
   refine TL.v (sV (Instr.sliceAt 116 (.slice A_s s_3.length c_s) (some (.i i_2)) none none)) 38 (.slice A1 ((s_3.drop i_2.toNat).length) (c_s-i_2.toNat)) (fun w hM=>(JE i_2.toNat s_3.length Kr (.inr ⟨_,_,rfl,(by (try have kx_:=YC hr1 h1);exact sd),rfl⟩) (.inl ⟨rfl,rfl⟩) (by (try have kx_:=YC hr1 h1);exact sd) (Nat.le_trans (Nat.le_refl _) (hM.le_at 0 rfl))).trans (by rw[hA1];(try have kx_:=YC hr1 h1);congr 3;simp only[List.length_drop])) {} ?_
   have hlclr:(s_3.take i_2.toNat++List.replicate (s_3.length-i_2.toNat) followed.zero).length=s_3.length:=by have k_:i_2.toNat≤s_3.length:=(by (try have kx_:=YC hr1 h1);exact sd);simp only[List.length_append,List.length_take,List.length_replicate];omega
   refine TL.opM (Γ:=Unit) (sV (Builtin.clear_ #[116] 0 #[.slice A1 ((s_3.drop i_2.toNat).length) (c_s-i_2.toNat)])) none (fun _=>.tuple #[]) (fun _=>[Ow A_s c_s 122 23 ((s_3.take i_2.toNat++List.replicate (s_3.length-i_2.toNat) followed.zero).map followed.c),Bk b_c0 #[.i c0] 3,Bk b_c1 #[.slice A_c1 c1.length c_c1] 31,Ow A_c1 c_c1 44 20 (c1.map Za.c)]) (fun _=>[(0,.slice A_s s_3.length c_s),(5,.i i_2)]) (by exact Gm (c:=followed.c) (bytes:=184) (sz:=23) followed.zero 0 i_2.toNat ((c_s-i_2.toNat)) ((s_3.drop i_2.toNat).length) 0 Kr Kr followed.one rfl hA1 (by simp only[List.length_drop]) (by (try have kx_:=YC hr1 h1);exact sd)) Kr (fun _=>Kr) (fun _=>TL.rw 0 (.slice A_s s_3.length c_s) (.slice A_s ((s_3.take i_2.toNat++List.replicate (s_3.length-i_2.toNat) followed.zero).length) c_s) Kr (by rw[hlclr]) (TL.nr (TL.r 2 [] [(39,.slice A_s ((s_3.take i_2.toNat++List.replicate (s_3.length-i_2.toNat) followed.zero).length) c_s),(40,.i i_2)] {} ?_)))
   obtain⟨A1_2,hA1_2⟩:∃ A0_,A0_=(if c_s=0 then A_s else A_s.map (fun a=>a.add (0*23))):=⟨_,rfl⟩
   refine TL.v (sV (Instr.sliceAt 116 (.slice A_s ((s_3.take i_2.toNat++List.replicate (s_3.length-i_2.toNat) followed.zero).length) c_s) none (some (.i i_2)) none)) 41 (.slice A1_2 (((s_3.take i_2.toNat++List.replicate (s_3.length-i_2.toNat) followed.zero).take i_2.toNat).length) (c_s-0)) (fun w hM=>(JE 0 i_2.toNat Kr (.inl ⟨rfl,rfl⟩) (.inr ⟨_,_,rfl,(by (try have kx_:=YC hr1 h1);exact sd),rfl⟩) (by (try have kx_:=YC hr1 h1);exact sd) (Nat.le_trans (by (try have kx_:=YC hr1 h1);exact sd) (hM.le_at 0 rfl))).trans (by rw[hA1_2];(try have kx_:=YC hr1 h1);congr 3;first|(simp only[List.length_take] <;> omega)|(simp only[List.length_take] at * <;> omega))) {} (TL.r 4 [] [(4,.slice A1_2 (((s_3.take i_2.toNat++List.replicate (s_3.length-i_2.toNat) followed.zero).take i_2.toNat).length) (c_s-0))] {} (TL.next rfl (TC.ret (TE.conv [Ow A_s c_s 122 23 (((s_3.take i_2.toNat++List.replicate (s_3.length-i_2.toNat) followed.zero).take i_2.toNat).map followed.c),Bk b_c0 #[.i c0] 3,Bk b_c1 #[.slice A_c1 c1.length c_c1] 31,Ow A_c1 c_c1 44 20 (c1.map Za.c)] (fun _ hM=>by have h_:=hM.takerow i_2.toNat 0 rfl (by simp only[List.length_map];exact(by (try have kx_:=YC hr1 h1);exact sg));rw[← List.map_take] at h_;exact h_) ?_))))
   have e:Xh s c0 c1=((s_3.take i_2.toNat++List.replicate (s_3.length-i_2.toNat) followed.zero).take i_2.toNat):=by subst hr1;unfold Xh;exact Zb h1 (Ye (hR.symm.trans hJ) (rfl))
   rw[e]
   exact TE.retM (.inl rfl) () [] (.slice A1_2 (((s_3.take i_2.toNat++List.replicate (s_3.length-i_2.toNat) followed.zero).take i_2.toNat).length) (c_s-0)) {} (by rw[hA1_2,O4];rfl) (fun _ hM=>hM.sub (sb 15))
def Yy (time:Int):List followed→Nat→(List Za)→(List Za)
 | [],_,xs_=>xs_
 | x::xs,k,xs_=>cond (x.f.Track.Time==time) (
   Yy time xs (k+1) (xs_++([x.f]))) (
   Yy time xs (k+1) xs_)
def ZA (t:Ze) (time:Int):Ze :=
 Y6 (Yy time t.all 0 ([]:List Za)) (fun xs__2 =>
  let r1:=Xg xs__2 500
  let r2:=Xh t.all time r1.1
  (⟨t.rules,r2,t.next,t.last⟩:Ze))
set_option maxRecDepth 100000 in
theorem VC (b_t:Nat) (t:Ze) (A_t_all:Option Addr) (c_t_all:Nat) (time:Int) (w:World) (hM:Sat ⟨w,Xj [.inl (b_t,.cells (Ze.k t A_t_all c_t_all) 118 (0,0)),.inr (Own A_t_all c_t_all 122 23 (t.all.map followed.c))]⟩ [.inl (b_t,.cells (Ze.k t A_t_all c_t_all) 118 (0,0)),.inr (Own A_t_all c_t_all 122 23 (t.all.map followed.c))] w) (hn:t.all.length≤64):Calls Tryz.prog 58 #[.pointer (some ⟨b_t,0,none⟩),.int .i64 time] w (QW (Γ:=(Option Addr×Nat)) ⟨w,Xj [.inl (b_t,.cells (Ze.k t A_t_all c_t_all) 118 (0,0)),.inr (Own A_t_all c_t_all 122 23 (t.all.map followed.c))]⟩ (fun _=>.tuple #[]) (fun g=>[.inl (b_t,.cells (Ze.k (⟨⟨(ZA t time).rules.Need,(ZA t time).rules.Of,(ZA t time).rules.Misses,(ZA t time).rules.Accel,(ZA t time).rules.Place,(ZA t time).rules.Speed⟩,(ZA t time).all,(ZA t time).next,(ZA t time).last⟩:Ze) g.1 g.2) 118 (0,0)),.inr (Own g.1 g.2 122 23 (((ZA t time).all).map followed.c))])):=by
 refine Yv (w0:=⟨w,Xj [Bk b_t (Ze.k t A_t_all c_t_all) 118,Ow A_t_all c_t_all 122 23 (t.all.map followed.c)]⟩) (vs:=[.p0 b_t,.i time]) hM Tryz.func58 rfl Tryz.ntmps58 rfl (TC.know (fun w hM=>hM.short_at 1 rfl) (fun s_t_all=>TC.sr (TL.nw 3 (fun b1=>.p0 b1) (fun b1=>Bk b1 #[.i time] 3) (fun b1=>{}) (fun b1=>TL.nr (TL.nw 4 (fun b2=>.p0 b2) (fun b2=>Bk b2 #[.slice none 0 0] 31) (fun b2=>{}) (fun b2=>TL.ns (TC.sr (TL.r 6 [2] [(10,.slice A_t_all t.all.length c_t_all),(11,.i (t.all.length:Int)),(12,.i 0)] {} (TL.next rfl (TC.conv [Ow none 0 44 20 (([]:List Za).map Za.c),Bk b2 #[.slice none 0 0] 31,Bk b1 #[.i time] 3,Bk b_t (Ze.k t A_t_all c_t_all) 118,Ow A_t_all c_t_all 122 23 (t.all.map followed.c)] (fun _ hM=>hM.emptyrow none 44 20) (TC.conv [Ow none 0 44 20 (([]:List Za).map Za.c),Bk b2 #[.slice none (([]:List Za).length) 0] 31,Bk b1 #[.i time] 3,Bk b_t (Ze.k t A_t_all c_t_all) 118,Ow A_t_all c_t_all 122 23 (t.all.map followed.c)] (fun _ hM=>hM) ?_)))))))))))
 obtain⟨R2,hR⟩:∃ R,R=Yy time t.all 0 ([]:List Za):=⟨_,rfl⟩
 refine TC.cut (S:=(List Za)×(Option Addr)×Nat) (fun (xs__2,A_xs__2,c_xs__2)=>[(0,.p0 b_t),(3,.p0 b1),(4,.p0 b2)]) (fun (xs__2,A_xs__2,c_xs__2)=>[Ow A_xs__2 c_xs__2 44 20 (xs__2.map Za.c),Bk b2 #[.slice A_xs__2 xs__2.length c_xs__2] 31,Bk b1 #[.i time] 3,Bk b_t (Ze.k t A_t_all c_t_all) 118,Ow A_t_all c_t_all 122 23 (t.all.map followed.c)]) (fun (xs__2,A_xs__2,c_xs__2)=>R2=xs__2∧xs__2.length≤t.all.length) ?_ ?_
 ·refine TC.block (TC.lw (X:=Nat×(List Za)×(Option Addr)×Nat) (fun (k,xs_,A_xs_,c_xs_)=>[(0,.p0 b_t),(3,.p0 b1),(4,.p0 b2),(10,.slice A_t_all t.all.length c_t_all),(11,.i (t.all.length:Int)),(12,.i (k:Int))]) (fun (k,xs_,A_xs_,c_xs_)=>[Ow A_xs_ c_xs_ 44 20 (xs_.map Za.c),Bk b2 #[.slice A_xs_ xs_.length c_xs_] 31,Bk b1 #[.i time] 3,Bk b_t (Ze.k t A_t_all c_t_all) 118,Ow A_t_all c_t_all 122 23 (t.all.map followed.c)]) (fun (k,xs_,A_xs_,c_xs_)=>t.all.length-k) (fun (k,xs_,A_xs_,c_xs_)=>k≤t.all.length∧R2=Yy time (t.all.drop k) k xs_∧xs_.length≤k) ?_ (0,([]:List Za),none,0) ⟨Nat.zero_le _,hR,sz⟩ Kr (sb 31))
  rintro⟨k,xs_,A_xs_,c_xs_⟩ ⟨hk,hI,hl_xs_⟩
  refine TC.sr (TL.r 1 [] [(13,.b (decide ((k:Int)<(t.all.length:Int))))] {} (TL.ns (TC.cond (decide ((k:Int)<(t.all.length:Int))) rfl Kr (fun h1=>?_) (fun h1=>?_))))
  ·have hlt:=ltN h1
   obtain⟨x,hx⟩:=elN hlt
   have hd:=drop_at hx
   refine TC.sn (TC.seq (TC.block (TC.sr (TL.v (sV (Instr.indexAt 116 (.slice A_t_all t.all.length c_t_all) (.i (k:Int)))) 14 (.pointer (some (Ix A_t_all (k*23)))) (fun w hM=>Zp (hM.rd_at 4 rfl) (by simp) Kr sd sd) {} (TL.v (sV (Instr.loadAt 122 (.pointer (some (Ix A_t_all (k*23)))))) 15 (followed.v x) (fun w hM=>Z6 (n:=23) (off:=0) (i:=k) (followed.v x) (hM.rd_at 4 rfl) (Z8 hx) Kr Kr Kr) {} (TL.nw 6 (fun b3=>.p0 b3) (fun b3=>Bk b3 (followed.c followed.zero) 122) (fun b3=>{}) (fun b3=>TL.s 0 (Bk b3 (followed.c x) 122) (fun _=>{}) (TL.nr (TL.r 6 [0,3] [(21,.b (x.f.Track.Time==time))] {} (TL.next rfl (TC.cond (x.f.Track.Time==time) rfl Kr (fun h2=>?_) (fun h2=>?_))))))))))))
   ·have q2_0:=(Y7 h2)
    refine TC.region (TL.r 3 [2,0] [(22,.slice A_xs_ xs_.length c_xs_),(24,Za.v x.f)] {} (TL.nw 25 (fun b4=>.slice (Pa b4) 1 1) (fun b4=>Bk b4 (Za.c x.f) 44) (fun b4=>{}) (fun b4=>TL.os (Γ:=AN) (sV (Builtin.append_ #[31,31] 31 #[.slice A_xs_ xs_.length c_xs_,.slice (Pa b4) 1 1])) 26 (fun g=>.slice g.1 (xs_++([x.f])).length g.2) 2 (fun g=>Ow g.1 g.2 44 20 ((xs_++([x.f])).map Za.c)) (Qx (bytes:=160) 31 2 ([x.f]) Kr rfl rfl Za.one rfl (fun w hM=>(Rd.lit hM 0 _ rfl Kr Kr Kr)) rfl sa) {} ?_)))
    rintro⟨A,c⟩
    exact TL.s 3 (Bk b2 #[.slice A ((xs_++([x.f])).length) c] 31) (fun _=>{}) (TL.done rfl (TE.nb (TE.next (TC.region (TL.r 2 [] [(12,.i (w64 ((k:Int)+1)))] {} (TL.done rfl (TE.rw 12 (.i (w64 ((k:Int)+1))) (.i ((k+1:Nat):Int)) Kr (ZF k (by omega)) (TE.again (x:=(k,xs_,A_xs_,c_xs_)) (k+1,(xs_++([x.f])),A,c) ⟨by omega,hI.trans (by rw[hd];exact Zj h2 (rfl)),sl⟩ (mN hlt) Kr (sb 124)))))))))
   ·have q2_0:=(ZQ h2)
    exact TC.skip (TE.nb (TE.next (TC.region (TL.r 2 [] [(12,.i (w64 ((k:Int)+1)))] {} (TL.done rfl (TE.rw 12 (.i (w64 ((k:Int)+1))) (.i ((k+1:Nat):Int)) Kr (ZF k (by omega)) (TE.again (x:=(k,xs_,A_xs_,c_xs_)) (k+1,xs_,A_xs_,c_xs_) ⟨by omega,hI.trans (by rw[hd];exact Zb h2 (rfl)),sl⟩ (mN hlt) Kr (sb 62))))))))
  ·have hd:=Qc h1
   refine TC.exit (TE.et (TE.et (TE.exit_same ?_)))
   exact TE.cut (xs_,A_xs_,c_xs_) (⟨hI.trans (by rw[hd];exact rfl),sl⟩) Kr (sb 31)
 ·rintro⟨xs__2,A_xs__2,c_xs__2⟩ ⟨hJ,hl_xs__2⟩
  refine TE.nr (TL.r 1 [1] [(29,.slice A_xs__2 xs__2.length c_xs__2)] {} (TL.cn (Γ:=AN) 30 (Xg xs__2 500) (fun r1 g=>.tuple #[.slice g.1 r1.1.length g.2,.i r1.2]) (fun r1 g=>[Ow g.1 g.2 44 20 (r1.1.map Za.c)]) (fun w hM=>Be A_xs__2 c_xs__2 xs__2 500 w (hM.rd_at 0 rfl) (hM.le_at 0 rfl)) {} (fun r1 hr1=>?_)))
  rintro⟨A_2,c_2⟩
  refine TL.know (fun w hM=>hM.short_at 0 rfl) (fun s_r1_0=>TL.r 5 [] [(31,.slice A_2 r1.1.length c_2)] {} (TL.s 2 (Bk b2 #[.slice A_2 r1.1.length c_2] 31) (fun _=>{}) (TL.next rfl (TC.region (TL.r 6 [4] [(33,.p0 b_t),(37,.slice A_t_all t.all.length c_t_all),(38,.func (.func 116) #[] #[.p0 b1,.p0 b2])] {} (TL.conv [Ow A_t_all c_t_all 122 23 (t.all.map followed.c),Bk b1 #[.i time] 3,Bk b2 #[.slice A_2 r1.1.length c_2] 31,Ow A_2 c_2 44 20 (r1.1.map Za.c),Ow A_xs__2 c_xs__2 44 20 (xs__2.map Za.c),Bk b_t (Ze.k t A_t_all c_t_all) 118] (fun _ hM=>hM.perm (px [5,3,2,0,1,4])) (TL.cm (Γ:=Unit) 4 39 (Xh t.all time r1.1) (fun r2 _=>.slice A_t_all r2.length c_t_all) (fun r2 _=>[Ow A_t_all c_t_all 122 23 (r2.map followed.c),Bk b1 #[.i time] 3,Bk b2 #[.slice A_2 r1.1.length c_2] 31,Ow A_2 c_2 44 20 (r1.1.map Za.c)]) [Ow A_t_all c_t_all 122 23 (t.all.map followed.c),Bk b1 #[.i time] 3,Bk b2 #[.slice A_2 r1.1.length c_2] 31,Ow A_2 c_2 44 20 (r1.1.map Za.c)] Kr (fun w hM=>Gp A_t_all c_t_all t.all b1 time b2 A_2 c_2 r1.1 w hM) {} (fun r2 hr2=>?_))))))))
  intro _
  refine TL.r 9 [] [(41,.pt b_t 6)] {} (TL.s 5 (Bk b_t (Ze.k (⟨t.rules,r2,t.next,t.last⟩:Ze) A_t_all c_t_all) 118) (fun _=>{}) (TL.done rfl ?_))
  have e:ZA t time=(⟨t.rules,r2,t.next,t.last⟩:Ze):=by subst hr1 hr2;unfold ZA;exact Ye (hR.symm.trans hJ) (rfl)
  refine TE.conv [Bk b_t (Ze.k (⟨t.rules,r2,t.next,t.last⟩:Ze) A_t_all c_t_all) 118,Ow A_t_all c_t_all 122 23 (r2.map followed.c),Bk b1 #[.i time] 3,Bk b2 #[.slice A_2 r1.1.length c_2] 31,Ow A_2 c_2 44 20 (r1.1.map Za.c),Ow A_xs__2 c_xs__2 44 20 (xs__2.map Za.c)] (fun _ hM=>hM.perm (px [5,0,1,2,3,4])) ?_
  rw[e]
  exact TE.retM (.inr rfl) (A_t_all,c_t_all) [] (.tuple #[]) {} rfl (fun _ hM=>hM.sub (sb 3))
end Go.Sky
end
section
namespace Go.Sky
open Go Go.Eng Go.Proofs
def X5 (a:Zg) (b_:Zg) (band:Int):Bool :=
 cond (((a.Time==b_.Time)&&(a.Code==b_.Code))&&(a.Code != (-1))) (
  let r1:=ZV a.At b_.At (w64 (a.Error+b_.Error))
  cond r1 (
   let r2:=JX a.Height b_.Height band
   r2) (
   false)) (
  false)
set_option maxRecDepth 100000 in
theorem Dn (a:Zg) (b_:Zg) (band:Int) (w:World):Calls Tryz.prog 88 #[Zg.v a,Zg.v b_,.int .i64 band] w (Ret w (.bool (X5 a b_ band))):=by
 refine Zk (vs:=[Zg.v a,Zg.v b_,.i band]) (w:=w) Tryz.func88 rfl Tryz.ntmps88 rfl (TC.sr (TL.nw 3 (fun b1=>.p0 b1) (fun b1=>Bk b1 (Zg.c a) 42) (fun b1=>{}) (fun b1=>TL.nw 4 (fun b2=>.p0 b2) (fun b2=>Bk b2 (Zg.c b_) 42) (fun b2=>{}) (fun b2=>TL.r 3 [] [(6,.b false)] {} (TL.nr (TL.r 6 [1,0] [(12,.b (a.Time==b_.Time))] {} (TL.j 12 (a.Time==b_.Time) 12 [1,0] [] (fun β=>[(18,.b (β&&(a.Code==b_.Code)))]) Kr {} {} (TL.r 13 [] [(19,.b ((a.Time==b_.Time)&&(a.Code==b_.Code)))] {} (TL.j 19 ((a.Time==b_.Time)&&(a.Code==b_.Code)) 17 [1] [] (fun β=>[(23,.b (β&&(a.Code != (-1))))]) Kr {} {} (TL.r 18 [] [(24,.b (((a.Time==b_.Time)&&(a.Code==b_.Code))&&(a.Code != (-1))))] {} (TL.split 24 (((a.Time==b_.Time)&&(a.Code==b_.Code))&&(a.Code != (-1))) Kr (fun h1=>?_) (fun h1=>?_))))))))))))
 ·refine TL.r 27 [1,0,1,0] [(26,P.v a.At),(28,P.v b_.At),(33,.i (w64 (a.Error+b_.Error)))] {} (TL.c 34 (ZV a.At b_.At (w64 (a.Error+b_.Error))) (fun r1=>.b r1) (fun w _=>Jp a.At b_.At (w64 (a.Error+b_.Error)) w) {} (fun r1 hr1=>TL.r 30 [] [(36,.b r1)] {} (TL.split 36 r1 Kr (fun h2=>?_) (fun h2=>?_))))
  ·exact TL.r 35 [1,0] [(38,.i a.Height),(40,.i b_.Height),(41,.i band)] {} (TL.c 42 (JX a.Height b_.Height band) (fun r2=>.b r2) (fun w _=>Wt a.Height b_.Height band w) {} (fun r2 hr2=>TL.r 38 [] [(6,.b r2)] {} (TL.next rfl (TC.ret (TE.ret [] (.b r2) {} (by unfold X5;refine eS (fun z=>(.b z:Value)) ?_;subst hr1 hr2;exact Zj h1 (Zj h2 (rfl))))))))
  ·exact TL.r 38 [] [(6,.b false)] {} (TL.next rfl (TC.ret (TE.ret [] (.b false) {} (by unfold X5;refine eS (fun z=>(.b z:Value)) ?_;subst hr1;exact Zj h1 (Zb h2 (rfl))))))
 ·exact TL.r 38 [] [(6,.b false)] {} (TL.next rfl (TC.ret (TE.ret [] (.b false) {} (by unfold X5;refine eS (fun z=>(.b z:Value)) ?_;exact Zb h1 (rfl)))))
def Yp (s:List Zg):List Zg :=
 s
set_option maxRecDepth 100000 in
theorem JM (A_s:Option Addr) (c_s:Nat) (s:List Zg) (w:World) (h_s:Rd w 6 A_s (s.map Zg.c)) (_hc_s:s.length≤c_s) (hb:s.length*48≤140737488355328):Calls Tryz.prog 83 #[.slice A_s s.length c_s] w (QW (Γ:=(Option Addr×Nat)) (cx w) (fun g=>.slice g.1 ((Yp s).length) g.2) (fun g=>[.inr (Own g.1 g.2 42 6 ((Yp s).map Zg.c))])):=by
 have s_s:=h_s.short;rw[List.length_map] at s_s
 rcases A_s with _|a
 ·have hz:s=[]:=FA h_s
  subst hz
  refine Zk (vs:=[.slice none 0 c_s]) (w:=w) Tryz.func83 rfl Tryz.ntmps83 rfl (TC.weak [(0,.slice none 0 c_s)] Kr (TC.sr (TL.r 1 [] [(2,.slice none 0 0)] {} (TL.ns (TC.sr (TL.r 2 [] [(4,.b true)] {} (TL.next rfl (TC.condT rfl Kr (TC.sr (TL.r 1 [] [(2,.slice none 0 0)] {} (TL.next rfl (TC.ret (TE.rt ?_)))))))))))))
  have e:Yp []=([]):=rfl
  refine TE.conv [Ow none 0 42 6 (([]:List Zg).map Zg.c)] (fun _ hM=>hM.emptyrow none 42 6) ?_
  rw[e]
  exact TE.retM (.inl rfl) (none,0) [] (.slice none 0 0) {} rfl (fun _ hM=>hM.sub (sb 1))
 ·refine Zk (vs:=[.slice (some a) s.length c_s]) (w:=w) Tryz.func83 rfl Tryz.ntmps83 rfl (TC.weak [(0,.slice (some a) s.length c_s)] Kr (TC.sr (TL.r 1 [] [(2,.slice none 0 0)] {} (TL.ns (TC.sr (TL.r 2 [] [(4,.b false)] {} (TL.next rfl (TC.condF rfl Kr (TC.snr (TL.nw 5 (fun b1=>.slice (Pa b1) 0 0) (fun b1=>Bk b1 #[] 42) (fun b1=>{}) (fun b1=>TL.r 2 [] [(6,.slice (some a) s.length c_s)] {} (TL.conv [Ow (Pa b1) 0 42 6 (([]:List Zg).map Zg.c)] (fun _ hM=>by exact hM.litrow 0 (([]:List Zg).map Zg.c) rfl Kr Kr Kr Kr) (TL.os (Γ:=AN) (sV (Builtin.append_ #[52,52] 52 #[.slice (Pa b1) (([]:List Zg).length) 0,.slice (some a) s.length c_s])) 7 (fun g=>.slice g.1 (([]:List Zg)++s).length g.2) 0 (fun g=>Ow g.1 g.2 42 6 ((([]:List Zg)++s).map Zg.c)) (Qx (bytes:=48) 52 0 s Kr rfl rfl Zg.one rfl (fun w hM=>(h_s.sat hM)) rfl sa) {} ?_)))))))))))))
  rintro⟨A,c⟩
  refine TL.r 4 [] [(2,.slice A ((([]:List Zg)++s).length) c)] {} (TL.next rfl (TC.ret ?_))
  have e:Yp s=(([]:List Zg)++s):=rfl
  rw[e]
  exact TE.retM (.inl rfl) (A,c) [] (.slice A ((([]:List Zg)++s).length) c) {} rfl (fun _ hM=>hM.sub (sb 1))
def Jy (x:Zg) (x_2:Zg) (x_3:Int):Bool :=
 let r1:=X5 x x_2 x_3
 r1
set_option maxRecDepth 100000 in
theorem Hg (x:Zg) (a_x_2:Addr) (x_2:Zg) (a_x_3:Addr) (x_3:Int) (w:World) (h_x_2:Rd w 6 (some a_x_2) [Zg.c x_2]) (h_x_3:Rd w 1 (some a_x_3) [ic x_3]):Calls Tryz.prog 87 #[Zg.v x,.pointer (some a_x_2),.pointer (some a_x_3)] w (Ret w (.bool (Jy x x_2 x_3))):=by
 exact Zk (vs:=[Zg.v x,.pointer (some a_x_2),.pointer (some a_x_3)]) (w:=w) Tryz.func87 rfl Tryz.ntmps87 rfl (TC.sr (TL.nw 3 (fun b1=>.p0 b1) (fun b1=>Bk b1 (Zg.c x) 42) (fun b1=>{}) (fun b1=>TL.r 2 [] [(4,.b false)] {} (TL.nr (TL.r 1 [0] [(5,Zg.v x)] {} (TL.v (sV (Instr.loadAt 42 (.pointer (some a_x_2)))) 6 (Zg.v x_2) (fun w hM=>Z6 (n:=6) (off:=0) (Zg.v x_2) (h_x_2.sat hM) (Xv _) Kr Kr Kr) {} (TL.v (sV (Instr.loadAt 3 (.pointer (some a_x_3)))) 7 (.i x_3) (fun w hM=>Zs (off:=0) (.i x_3) (h_x_3.sat hM) (Xv _) Kr Kr) {} (TL.c 8 (X5 x x_2 x_3) (fun r1=>.b r1) (fun w _=>Dn x x_2 x_3 w) {} (fun r1 hr1=>TL.r 5 [] [(4,.b r1)] {} (TL.next rfl (TC.ret (TE.ret [] (.b r1) {} (by unfold Jy;refine eS (fun z=>(.b z:Value)) ?_;subst hr1;exact rfl)))))))))))))
def Xt (c0:Zg) (c1:Int):List Zg→Nat→((Unit) ⊕ (Int))
 | [],_=>.inl ()
 | x::xs,k=>let r1:=Jy x c0 c1
  cond r1 (
   .inr (k:Int)) (
   Xt c0 c1 xs (k+1))
def Qz (s:List Zg) (c0:Zg) (c1:Int):Int :=
 Sum.elim (fun _ =>
  (-1)) (fun r=>r) (Xt c0 c1 s 0)
set_option maxRecDepth 100000 in
theorem GP (A_s:Option Addr) (c_s:Nat) (s:List Zg) (a_c0:Addr) (c0:Zg) (a_c1:Addr) (c1:Int) (w:World) (h_s:Rd w 6 A_s (s.map Zg.c)) (_hc_s:s.length≤c_s) (h_c0:Rd w 6 (some a_c0) [Zg.c c0]) (h_c1:Rd w 1 (some a_c1) [ic c1]):Calls Tryz.prog 144 #[.slice A_s s.length c_s,.func (.func 87) #[] #[.pointer (some a_c0),.pointer (some a_c1)]] w (Ret w (.int .i64 (Qz s c0 c1))):=by
 have s_s:=h_s.short;rw[List.length_map] at s_s
 refine Zk (vs:=[.slice A_s s.length c_s,.func (.func 87) #[] #[.pointer (some a_c0),.pointer (some a_c1)]]) (w:=w) Tryz.func144 rfl Tryz.ntmps144 rfl (TC.sr (TL.r 1 [] [(4,.i 0)] {} (TL.ns (TC.sr (TL.r 3 [] [(7,.i (s.length:Int)),(8,.i 0)] {} (TL.next rfl ?_))))))
 obtain⟨R1,hR⟩:∃ R,R=Xt c0 c1 s 0:=⟨_,rfl⟩
 refine TC.cut (S:=Unit) (fun (_:Unit)=>[]) (fun (_:Unit)=>[]) (fun (_:Unit)=>R1=.inl ()) ?_ ?_
 ·refine TC.block (TC.lw (X:=Nat) (fun k=>[(0,.slice A_s s.length c_s),(1,.func (.func 87) #[] #[.pointer (some a_c0),.pointer (some a_c1)]),(7,.i (s.length:Int)),(8,.i (k:Int))]) (fun k=>[]) (fun k=>s.length-k) (fun k=>k≤s.length∧R1=Xt c0 c1 (s.drop k) k) ?_ 0 ⟨Nat.zero_le _,hR⟩ Kr (sb 0))
  rintro k ⟨hk,hI⟩
  refine TC.sr (TL.r 1 [] [(9,.b (decide ((k:Int)<(s.length:Int))))] {} (TL.ns (TC.cond (decide ((k:Int)<(s.length:Int))) rfl Kr (fun h1=>?_) (fun h1=>?_))))
  ·have hlt:=ltN h1
   obtain⟨x,hx⟩:=elN hlt
   have hd:=drop_at hx
   refine TC.sn (TC.seq (TC.block (TC.sr (TL.r 2 [] [(5,.i (k:Int))] {} (TL.nr (TL.r 3 [] [(11,.func (.func 87) #[] #[.pointer (some a_c0),.pointer (some a_c1)]),(12,.slice A_s s.length c_s),(13,.i (k:Int))] {} (TL.v (sV (Instr.indexAt 52 (.slice A_s s.length c_s) (.i (k:Int)))) 14 (.pointer (some (Ix A_s (k*6)))) (fun w hM=>Zp (h_s.sat hM) (by simp) Kr sd sd) {} (TL.v (sV (Instr.loadAt 42 (.pointer (some (Ix A_s (k*6)))))) 15 (Zg.v x) (fun w hM=>Z6 (n:=6) (off:=0) (i:=k) (Zg.v x) (h_s.sat hM) (Z8 hx) Kr Kr Kr) {} (TL.c 16 (Jy x c0 c1) (fun r1=>.b r1) (fun w hM=>Hg x a_c0 c0 a_c1 c1 w (h_c0.sat hM) (h_c1.sat hM)) {} (fun r1 hr1=>TL.next rfl (TC.cond r1 rfl Kr (fun h2=>?_) (fun h2=>?_))))))))))))
   ·refine TC.sr (TL.r 2 [] [(4,.i (k:Int))] {} (TL.next rfl (TC.ret (TE.rb (TE.rt (TE.rt (TE.rb (TE.rt (TE.rt ?_)))))))))
    exact TE.ret [] (.i (k:Int)) {} (by unfold Qz;refine eS (fun z=>(.i z:Value)) ?_;subst hr1;exact X3 (hR.symm.trans (hI.trans (by rw[hd];exact Zj h2 (rfl)))) rfl)
   ·exact TC.skip (TE.nb (TE.next (TC.region (TL.r 2 [] [(8,.i (w64 ((k:Int)+1)))] {} (TL.done rfl (TE.rw 8 (.i (w64 ((k:Int)+1))) (.i ((k+1:Nat):Int)) Kr (ZF k (by omega)) (TE.again (x:=k) (k+1) ⟨by omega,hI.trans (by subst hr1;rw[hd];exact Zb h2 (rfl))⟩ (mN hlt) Kr (sb 0))))))))
  ·have hd:=Qc h1
   refine TC.exit (TE.et (TE.et (TE.exit_same ?_)))
   exact TE.cut () (hI.trans (by rw[hd];exact rfl)) Kr (sb 0)
 ·intro _ hJ
  exact TE.nr (TL.r 1 [] [(4,.i (-1))] {} (TL.next rfl (TC.ret (TE.ret [] (.i (-1)) {} (by unfold Qz;refine eS (fun z=>(.i z:Value)) ?_;exact Xk (hR.symm.trans hJ) (rfl))))))
def Xd (s:List Zg) (c0:Zg) (c1:Int):Bool :=
 let r1:=Qz s c0 c1
 decide (r1≥0)
set_option maxRecDepth 100000 in
theorem U1 (A_s:Option Addr) (c_s:Nat) (s:List Zg) (a_c0:Addr) (c0:Zg) (a_c1:Addr) (c1:Int) (w:World) (h_s:Rd w 6 A_s (s.map Zg.c)) (hc_s:s.length≤c_s) (h_c0:Rd w 6 (some a_c0) [Zg.c c0]) (h_c1:Rd w 1 (some a_c1) [ic c1]):Calls Tryz.prog 86 #[.slice A_s s.length c_s,.func (.func 87) #[] #[.pointer (some a_c0),.pointer (some a_c1)]] w (Ret w (.bool (Xd s c0 c1))):=by
 have s_s:=h_s.short;rw[List.length_map] at s_s
 exact Zk (vs:=[.slice A_s s.length c_s,.func (.func 87) #[] #[.pointer (some a_c0),.pointer (some a_c1)]]) (w:=w) Tryz.func86 rfl Tryz.ntmps86 rfl (TC.sr (TL.r 1 [] [(4,.b false)] {} (TL.nr (TL.r 2 [] [(5,.slice A_s s.length c_s),(6,.func (.func 87) #[] #[.pointer (some a_c0),.pointer (some a_c1)])] {} (TL.c 7 (Qz s c0 c1) (fun r1=>.i r1) (fun w hM=>GP A_s c_s s a_c0 c0 a_c1 c1 w (h_s.sat hM) hc_s (h_c0.sat hM) (h_c1.sat hM)) {} (fun r1 hr1=>TL.r 5 [] [(4,.b (decide (r1≥0)))] {} (TL.next rfl (TC.ret (TE.ret [] (.b (decide (r1≥0))) {} (by unfold Xd;refine eS (fun z=>(.b z:Value)) ?_;subst hr1;exact rfl))))))))))
end Go.Sky
end
section
namespace Go.Sky
open Go Go.Eng Go.Proofs
def YD (a:Zg) (b_:Zg):Int :=
 let r1:=cmp_Compare_int a.Time b_.Time
 let r2:=cmp_Compare_int a.Error b_.Error
 let r3:=cmp_Compare_int a.At.X b_.At.X
 let r4:=cmp_Compare_int a.At.Y b_.At.Y
 let r5:=cmp_Compare_int a.Height b_.Height
 let r6:=cmp_Compare_int a.Code b_.Code
 let r7:=QZ ([r1,r2,r3,r4,r5,r6])
 r7
set_option maxRecDepth 100000 in
theorem Hh (a:Zg) (b_:Zg) (w:World):Calls Tryz.prog 85 #[Zg.v a,Zg.v b_] w (Ret w (.int .i64 (YD a b_))):=by
 exact Zk (vs:=[Zg.v a,Zg.v b_]) (w:=w) Tryz.func85 rfl Tryz.ntmps85 rfl (TC.sr (TL.nw 2 (fun b1=>.p0 b1) (fun b1=>Bk b1 (Zg.c a) 42) (fun b1=>{}) (fun b1=>TL.nw 3 (fun b2=>.p0 b2) (fun b2=>Bk b2 (Zg.c b_) 42) (fun b2=>{}) (fun b2=>TL.r 3 [] [(4,.i 0)] {} (TL.ns (TC.drawTail 34 Kr Kr (TQ.r 4 [1,0] [(6,.i a.Time),(8,.i b_.Time)] {} (TQ.c 9 (cmp_Compare_int a.Time b_.Time) (fun r1=>.i r1) (fun w _=>Ya a.Time b_.Time w) rfl {} (fun r1 hr1=>TQ.r 9 [1,0] [(11,.i a.Error),(13,.i b_.Error)] {} (TQ.c 14 (cmp_Compare_int a.Error b_.Error) (fun r2=>.i r2) (fun w _=>Ya a.Error b_.Error w) rfl {} (fun r2 hr2=>TQ.r 16 [1,0] [(17,.i a.At.X),(20,.i b_.At.X)] {} (TQ.c 21 (cmp_Compare_int a.At.X b_.At.X) (fun r3=>.i r3) (fun w _=>Ya a.At.X b_.At.X w) rfl {} (fun r3 hr3=>TQ.r 23 [1,0] [(24,.i a.At.Y),(27,.i b_.At.Y)] {} (TQ.c 28 (cmp_Compare_int a.At.Y b_.At.Y) (fun r4=>.i r4) (fun w _=>Ya a.At.Y b_.At.Y w) rfl {} (fun r4 hr4=>TQ.r 28 [1,0] [(30,.i a.Height),(32,.i b_.Height)] {} (TQ.c 33 (cmp_Compare_int a.Height b_.Height) (fun r5=>.i r5) (fun w _=>Ya a.Height b_.Height w) rfl {} (fun r5 hr5=>TQ.r 33 [1,0] [(35,.i a.Code),(37,.i b_.Code)] {} (TQ.c 38 (cmp_Compare_int a.Code b_.Code) (fun r6=>.i r6) (fun w _=>Ya a.Code b_.Code w) rfl {} (fun r6 hr6=>TQ.tail rfl (TL.nw 39 (fun b3=>.slice (Pa b3) 6 6) (fun b3=>Bk b3 #[.i r1,.i r2,.i r3,.i r4,.i r5,.i r6] 3) (fun b3=>{}) (fun b3=>TL.c 40 (QZ ([r1,r2,r3,r4,r5,r6])) (fun r7=>.i r7) (fun w hM=>VA (Pa b3) 6 ([r1,r2,r3,r4,r5,r6]) w (Rd.lit hM 0 _ rfl Kr Kr Kr) (Nat.le_refl _)) {} (fun r7 hr7=>TL.r 37 [] [(4,.i r7)] {} (TL.next rfl (TC.ret (TE.ret [] (.i r7) {} (by unfold YD;refine eS (fun z=>(.i z:Value)) ?_;subst hr1 hr2 hr3 hr4 hr5 hr6 hr7;exact rfl))))))))))))))))))))))))))
end Go.Sky
end
section
namespace Go.Eng
open Go.Sort Go.Proofs Go.Shelf
theorem flat_get {sz:Nat}:∀ (rows:List (Array Value)) (i j:Nat) (r:Array Value),(∀ r∈rows,r.size=sz)→rows[i]?=some r→j<sz→(flat rows)[i*sz+j]?=r[j]?
 | [],i,j,r,_,hi,_=>by simp at hi
 | r0::rows,0,j,r,hall,hi,hj=>by
  have h0:=hall r0 (by simp)
  simp only[List.getElem?_cons_zero,Option.some.injEq] at hi
  subst hi
  rw[Jt,Nat.zero_mul,Nat.zero_add,List.getElem?_append_left (by rw[Array.length_toList,h0];exact hj),Array.getElem?_toList]
 | r0::rows,i+1,j,r,hall,hi,hj=>by
  have h0:=hall r0 (by simp)
  rw[List.getElem?_cons_succ] at hi
  have e:(i+1)*sz+j-sz=i*sz+j:=by rw[Nat.add_mul];omega
  rw[Jt,List.getElem?_append_right (by rw[Array.length_toList,h0,Nat.add_mul];omega),Array.length_toList,h0,e]
  exact flat_get rows i j r (fun r hr=>hall r (by simp[hr])) hi hj
section
variable {α:Type} [Inhabited α]
theorem Hi {c:α→Array Value} {k:Nat} (hk:∀ x,(c x).size=k) (l:List α):(flatK (fun x=>(c x).toList) k l.toArray).toList=flat (l.map c):=by
 have hall:∀ r∈l.map c,r.size=k:=by
  intro r hr
  obtain⟨x,_,rfl⟩:=List.mem_map.1 hr
  exact hk x
 have hl:=QC (l.map c) hall
 rw[List.length_map] at hl
 apply List.ext_getElem?
 intro t
 by_cases ht:t<l.length*k
 ·have hk0:0<k:=by
   rcases Nat.eq_zero_or_pos k with h|h
   ·rw[h,Nat.mul_zero] at ht;omega
   ·exact h
  have hi:t/k<l.length:=(Nat.div_lt_iff_lt_mul hk0).2 ht
  have hj:t%k<k:=Nat.mod_lt _ hk0
  have hg:=flat_get (l.map c) (t/k) (t%k) (c (l[t/k]'hi)) hall (by rw[List.getElem?_map,List.getElem?_eq_getElem hi];rfl) hj
  have et:t/k*k+t%k=t:=by rw[Nat.mul_comm];exact Nat.div_add_mod t k
  rw[et] at hg
  rw[hg]
  have hs:t<(flatK (fun x=>(c x).toList) k l.toArray).size:=by rw[size_flatK];simpa using ht
  rw[Array.getElem?_toList,Array.getElem?_eq_getElem hs]
  have hx:=get_flatK (fun x=>(c x).toList) k l.toArray t (by simpa using ht)
  rw[getElem!_pos (flatK (fun x=>(c x).toList) k l.toArray) t hs] at hx
  rw[hx]
  have hsz:t%k<(c (l[t/k]'hi)).size:=by rw[hk];exact hj
  rw[Array.getElem?_eq_getElem hsz]
  have e1:(l.toArray)[t/k]! = l[t/k]'hi:=by
   rw[getElem!_pos l.toArray (t/k) (by simpa using hi)];simp
  rw[e1,getElem!_pos ((c (l[t/k]'hi)).toList) (t%k) (by simpa using hsz)]
  simp
 ·rw[List.getElem?_eq_none (by rw[Array.length_toList,size_flatK];simpa using Nat.le_of_not_lt ht),List.getElem?_eq_none (by rw[hl];omega)]
theorem CO {w:World} {g:Nat} {cur:Array Value} {e:TypeId} {vs:Array Value} (hb:w.heap[g]?=some (.cells cur e (0,0))) (ht:cur.toList.take vs.size=vs.toList):Holds id w g 0 vs:=by
 intro j hj
 refine⟨?_,by simp[World.frozen?,hb]⟩
 have h1:(cur.toList.take vs.size)[j]?=vs.toList[j]?:=by rw[ht]
 rw[List.getElem?_take_of_lt hj,Array.getElem?_toList,Array.getElem?_toList] at h1
 simp only[World.cell?,hb,Nat.zero_add]
 simp only[Option.isSome_none,Bool.false_eq_true,if_false]
 rw[h1]
 simp[hj]
theorem SY {w:World} {g n:Nat} {os:Array Obj} {cur:Array Value} {e:TypeId} {fr:Nat×Nat} (d:Array Value) (hb:w.heap[g]?=some (.cells cur e fr)) :
  (grow (putRow id (Sort.ahead w n) g 0 d) os).heap[g]?=some (.cells (putCells id 0 d cur) e fr):=by
 have hg:g<w.heap.size:=(Array.getElem?_eq_some_iff.1 hb).1
 rw[heap_grow_old _ _ (by simpa using hg)]
 simp[putRow,mapBlock,Sort.ahead,Array.getElem?_modify,hb,onCells]
theorem CP {w:World} {g n:Nat} {os:Array Obj} (d:Array Value):w.grownBy (grow (putRow id (Sort.ahead w n) g 0 d) os) (some g):=by
 refine⟨rfl,rfl,rfl,by simp,fun k hk hne=>?_⟩
 rw[heap_grow_old _ _ (by simpa using hk)]
 have:g≠k:=fun e=>hne (by rw[e])
 simp[putRow,mapBlock,Sort.ahead,Array.getElem?_modify,this]
theorem SZ (cur:Array Value) (vs:Array Value) (h:vs.size≤cur.size):(putCells id 0 vs cur).toList.take vs.size=vs.toList:=by
 apply List.ext_getElem?
 intro j
 by_cases hj:j<vs.size
 ·rw[List.getElem?_take_of_lt hj,Array.getElem?_toList,Array.getElem?_toList]
  simp[putCells,hj,show j<cur.size by omega]
 ·rw[List.getElem?_take_eq_none (by omega),List.getElem?_eq_none (by simp;omega)]
theorem Hj {w w':World} (h:Below w.heap.size w w'):∃ q os',w'=grow (w.drewN q) os':=by
 refine⟨w'.drawn-w.drawn,w'.heap.extract w.heap.size w'.heap.size,?_⟩
 have hd:w.drawn+(w'.drawn-w.drawn)=w'.drawn:=by have:=h.drawn;omega
 have hh:w.heap++w'.heap.extract w.heap.size w'.heap.size=w'.heap:=by
  apply Array.ext_getElem?
  intro i
  by_cases hi:i<w.heap.size
  ·rw[Array.getElem?_append_left hi];exact(h.block i hi).symm
  ·rw[Array.getElem?_append_right (by omega)]
   by_cases hi2:i<w'.heap.size
   ·rw[Array.getElem?_extract]
    simp only[show i-w.heap.size<min w'.heap.size w'.heap.size-w.heap.size by omega,if_true]
    congr 1;omega
   ·rw[Array.getElem?_eq_none (by simp;omega),Array.getElem?_eq_none (by omega)]
 obtain⟨h1,t1,d1,o1,u1⟩:=w
 obtain⟨h2,t2,d2,o2,u2⟩:=w'
 have a:=h.os
 have b:=h.tape
 have c:=h.output
 simp only at a b c hd hh
 subst a b c
 show World.mk h2 t2 d2 o2 u2=World.mk _ _ _ _ _
 congr 1
 ·exact hh.symm
 ·exact hd.symm
theorem FR {P:Program} {ρ:Ren} (L:SlLaysF0.n6 P ρ) {k:Nat} {c:α→Array Value} (aE:∀ w,(isAgg (ρ.t 24)).run P w=.ok true w) (zE:∀ w,(Go.sizeOf (ρ.t 24)).run P w=.ok k w) (hk:∀ x,(c x).size=k) (h1:∀ x,∀ v∈(c x).toList,v.oneCell'=true)
  (cf:α→α→Int) (hO:SWO (ltOf cf)) (g:Nat) (eg:∀ args w,(callFunc g args).run P w=.ok (.enter g args) w) (hcmp:∀ x y W,Calls P g #[.agg (c x),.agg (c y)] W (Ret W (.int .i64 (cf x y)))) (hT:∀ x y,ltOf cf x y=false→ltOf cf y x=false→x=y) (A:Option Addr) (cap e:Nat) (l:List α) (w:World)
  (hM:Sat ⟨w,Xj [.inr (Own A cap e k (l.map c))]⟩ [.inr (Own A cap e k (l.map c))] w) :
  Calls P (ρ.f 6) #[.slice A l.length cap,.func (.func g) #[] #[]] w (QW (Γ:=List α) ⟨w,Xj [.inr (Own A cap e k (l.map c))]⟩ (fun _=>.tuple #[])
   (fun r=>[.inr (XF (r.length=l.length∧r=l.mergeSort (fun x y=>!ltOf cf y x))),.inr (Own A cap e k (r.map c))])):=by
 rcases hM.own_at 0 rfl with ⟨hc,hr⟩|⟨b,cur,h⟩
 ·have hl:l=[]:=by simpa using hr
  subst hl
  refine(AnyF.slices_SortFunc_none L A cap _ w).mono ?_
  rintro en w' ⟨rfl,rfl⟩
  exact⟨[],rfl,hM.fact (by simp)⟩
 ·have hl:(l.map c).length=l.length:=by simp
  have hat:=h.at_;subst hat
  have hh:=h.heap
  have hflat:=Hi hk l
  have hvs:(flatK (fun x=>(c x).toList) k l.toArray).size=l.length*k:=by rw[size_flatK];simp
  have ht:cur.toList.take (flatK (fun x=>(c x).toList) k l.toArray).size=(flatK (fun x=>(c x).toList) k l.toArray).toList:=by
   rw[hflat,hvs]
   have:=h.holds
   rwa [hl] at this
  have hcl:CmpLays P g #[] (fun x=>(c x).toList) k cf b 0 l.toArray.size w:=by
   intro m os dk _ x y
   refine(hcmp x y _).mono ?_
   rintro en w' ⟨he,hb⟩
   exact⟨he,Hj hb⟩
  have hs62:l.toArray.size<4611686018427387904:=by have:=h.short;rw[hl] at this;simpa using this
  have hcon:=AnyQ.slices_SortFunc_total L k aE zE (fun x=>(c x).toList) (fun x=>by rw[Array.length_toList,hk]) h1 cf hO g #[] b 0 cap l.toArray w eg hcl (CO hh ht) (UZ hh) hs62 hT
  rw[List.size_toArray] at hcon
  refine hcon.mono ?_
  rintro en w' ⟨rfl,n,os,rfl⟩
  obtain⟨d',hd'⟩:∃ d',d'=(l.toArray.toList.mergeSort fun x y=>!(ltOf cf) y x).toArray:=⟨_,rfl⟩
  rw[← hd']
  have hds:d'.toList=l.mergeSort fun x y=>!(ltOf cf) y x:=by rw[hd']
  have hdl:d'.toList.length=l.length:=by rw[hds,List.length_mergeSort]
  have hflat2:=Hi hk d'.toList
  rw[Array.toArray_toList] at hflat2
  have hvs2:(flatK (fun x=>(c x).toList) k d').size=l.length*k:=by rw[size_flatK,← hdl,Array.length_toList]
  have hle:=h.le;rw[hl] at hle
  have hsz:=h.size
  have hG:=CP (w:=w) (g:=b) (n:=n) (os:=os) (flatK (fun x=>(c x).toList) k d')
  have hB:=SY (w:=w) (g:=b) (n:=n) (os:=os) (cur:=cur) (e:=e) (fr:=(0,0)) (flatK (fun x=>(c x).toList) k d') hh
  refine⟨d'.toList,rfl,Sat.fact ?_ ⟨hdl,hds⟩⟩
  ·refine hM.step (j:=0) (e':=.inr (Own (some ⟨b,0,none⟩) cap e k (d'.toList.map c))) rfl ⟨hG.os,hG.tape,hG.output,hG.size,fun q hq hf=>hG.block q hq (fun he=>hf ?_),Nat.le_add_right _ _⟩ ?_ (fun b hb=>.inl hb)
   ·simp only[Option.some.injEq] at he
    exact⟨h.pos,_,rfl,he.symm⟩
   ·refine .inr ⟨b,putCells id 0 (flatK (fun x=>(c x).toList) k d') cur,rfl,h.pos,hB,by rw[List.length_map,hdl];exact hle,h.max,by simp[putCells,hsz],?_,?_,?_⟩
    ·rw[List.length_map,hdl,← hvs2,SZ cur _ (by rw[hvs2,hsz];exact Nat.mul_le_mul_right _ hle),hflat2]
    ·intro r hr
     obtain⟨x,_,rfl⟩:=List.mem_map.1 hr
     exact hk x
    ·rw[List.length_map,hdl];have:=h.short;rwa [hl] at this
end
end Go.Eng
end
section
namespace Go.Proofs
open Go.Shelf
def Tryz.laysSpot_ren:Go.Shelf.Ren:=⟨fun|6=>84|15=>141|14=>140|28=>179|29=>169|20=>171|21=>172|22=>173|23=>174|24=>175|25=>176|26=>177|27=>178|46=>203|47=>204|48=>205|49=>206|50=>207|57=>227|n=>n,fun|22=>52|24=>42|25=>173|3=>3|39=>227|0=>0|53=>251|55=>162|4=>4|46=>245|45=>244|50=>208|5=>5|9=>9|66=>268|70=>272|76=>280|77=>148|n=>n,fun|n=>n⟩
theorem Tryz.laysSpot:SlLaysF0.n6 Tryz.prog Tryz.laysSpot_ren:={
 mixed:=by kernel_rfl,
 f6:=⟨Tryz.f84.name,by decide,Tryz.func84.trans (congrArg some (by kernel_rfl))⟩,
 f14:=⟨Tryz.f140.name,by decide,Tryz.func140.trans (congrArg some (by kernel_rfl))⟩,
 f15:=Tryz.func141.trans (congrArg some (by kernel_rfl)),
 f20:=⟨Tryz.f171.name,by decide,Tryz.func171.trans (congrArg some (by kernel_rfl))⟩,
 f21:=⟨Tryz.f172.name,by decide,Tryz.func172.trans (congrArg some (by kernel_rfl))⟩,
 f22:=⟨Tryz.f173.name,by decide,Tryz.func173.trans (congrArg some (by kernel_rfl))⟩,
 f23:=⟨Tryz.f174.name,by decide,Tryz.func174.trans (congrArg some (by kernel_rfl))⟩,
 f24:=⟨Tryz.f175.name,by decide,Tryz.func175.trans (congrArg some (by kernel_rfl))⟩,
 f25:=⟨Tryz.f176.name,by decide,Tryz.func176.trans (congrArg some (by kernel_rfl))⟩,
 f26:=⟨Tryz.f177.name,by decide,Tryz.func177.trans (congrArg some (by kernel_rfl))⟩,
 f27:=⟨Tryz.f178.name,by decide,Tryz.func178.trans (congrArg some (by kernel_rfl))⟩,
 f28:=Tryz.func179.trans (congrArg some (by kernel_rfl)),
 f29:=Tryz.func169.trans (congrArg some (by kernel_rfl)),
 f46:=⟨Tryz.f203.name,by decide,Tryz.func203.trans (congrArg some (by kernel_rfl))⟩,
 f47:=Tryz.func204.trans (congrArg some (by kernel_rfl)),
 f48:=Tryz.func205.trans (congrArg some (by kernel_rfl)),
 f49:=⟨Tryz.f206.name,by decide,Tryz.func206.trans (congrArg some (by kernel_rfl))⟩,
 f50:=⟨Tryz.f207.name,by decide,Tryz.func207.trans (congrArg some (by kernel_rfl))⟩,
 f57:=⟨Tryz.f227.name,by decide,Tryz.func227.trans (congrArg some (by kernel_rfl))⟩,
 t0:=Tryz.underlying0,
 a0:=Tryz.isAgg0,
 z0:=Tryz.sizeOf0,
 v0:=Tryz.zeroValue0,
 t3:=Tryz.underlying3,
 a3:=Tryz.isAgg3,
 z3:=Tryz.sizeOf3,
 v3:=Tryz.zeroValue3,
 t4:=Tryz.underlying4,
 a4:=Tryz.isAgg4,
 z4:=Tryz.sizeOf4,
 v4:=Tryz.zeroValue4,
 t5:=Tryz.underlying5,
 a5:=Tryz.isAgg5,
 z5:=Tryz.sizeOf5,
 v5:=Tryz.zeroValue5,
 t9:=Tryz.underlying9,
 a9:=Tryz.isAgg9,
 z9:=Tryz.sizeOf9,
 v9:=Tryz.zeroValue9,
 t22:=Tryz.underlying52,
 a22:=Tryz.isAgg52,
 z22:=Tryz.sizeOf52,
 v22:=Tryz.zeroValue52,
 t25:=Tryz.underlying173,
 a25:=Tryz.isAgg173,
 z25:=Tryz.sizeOf173,
 v25:=Tryz.zeroValue173,
 t39:=Tryz.underlying227,
 a39:=Tryz.isAgg227,
 z39:=Tryz.sizeOf227,
 v39:=Tryz.zeroValue227,
 t45:=Tryz.underlying244,
 a45:=Tryz.isAgg244,
 z45:=Tryz.sizeOf244,
 v45:=Tryz.zeroValue244,
 t46:=Tryz.underlying245,
 a46:=Tryz.isAgg245,
 z46:=Tryz.sizeOf245,
 v46:=Tryz.zeroValue245,
 t50:=Tryz.underlying208,
 a50:=Tryz.isAgg208,
 z50:=Tryz.sizeOf208,
 v50:=Tryz.zeroValue208,
 t53:=Tryz.underlying251,
 a53:=Tryz.isAgg251,
 z53:=Tryz.sizeOf251,
 v53:=Tryz.zeroValue251,
 t55:=Tryz.underlying162,
 a55:=Tryz.isAgg162,
 z55:=Tryz.sizeOf162,
 v55:=Tryz.zeroValue162,
 t66:=Tryz.underlying268,
 a66:=Tryz.isAgg268,
 z66:=Tryz.sizeOf268,
 v66:=Tryz.zeroValue268,
 t70:=Tryz.underlying272,
 a70:=Tryz.isAgg272,
 z70:=Tryz.sizeOf272,
 v70:=Tryz.zeroValue272,
 t76:=Tryz.underlying280,
 a76:=Tryz.isAgg280,
 z76:=Tryz.sizeOf280,
 v76:=Tryz.zeroValue280,
 t77:=Tryz.underlying148,
 a77:=Tryz.isAgg148,
 z77:=Tryz.sizeOf148,
 v77:=Tryz.zeroValue148 }
end Go.Proofs
end
section
namespace Go.Srt
open Go Go.Eng Go.Sky
def lx:List Int→List Int→Bool
 | x::xs,y::ys=>decide (x<y)||(decide (x=y)&&lx xs ys)
 | _,_=>false
theorem Gq:∀ xs ys:List Int,lx xs ys=true→lx ys xs=false
 | [],ys,h=>by cases ys <;> cases h
 | x::xs,[],h=>by cases h
 | x::xs,y::ys,h=>by
  simp only[lx,Bool.or_eq_true,Bool.and_eq_true,decide_eq_true_eq] at h
  simp only[lx,Bool.or_eq_false_iff,Bool.and_eq_false_iff,decide_eq_false_iff_not]
  rcases h with h|⟨h1,h2⟩
  ·exact⟨by omega,.inl (by omega)⟩
  ·exact⟨by omega,.inr (Gq xs ys h2)⟩
theorem Mc:∀ xs ys zs:List Int,xs.length=ys.length→ys.length=zs.length→lx xs ys=false→lx ys zs=false→lx xs zs=false
 | [],_,zs,_,_,_,_=>by cases zs <;> rfl
 | x::xs,[],zs,h,_,_,_=>by cases h
 | x::xs,y::ys,[],_,h,_,_=>by cases h
 | x::xs,y::ys,w::zs,h1,h2,h3,h4=>by
  simp only[lx,Bool.or_eq_false_iff,Bool.and_eq_false_iff,decide_eq_false_iff_not] at h3 h4 ⊢
  refine⟨by omega,?_⟩
  by_cases e:x=w
  ·have e1:x=y:=by omega
   have e2:y=w:=by omega
   exact .inr (Mc xs ys zs (by simpa using h1) (by simpa using h2) (h3.2.resolve_left (fun q=>q e1)) (h4.2.resolve_left (fun q=>q e2)))
  ·exact .inl e
theorem Md:∀ xs ys:List Int,xs.length=ys.length→lx xs ys=false→lx ys xs=false→xs=ys
 | [],[],_,_,_=>rfl
 | [],y::ys,h,_,_=>by cases h
 | x::xs,[],h,_,_=>by cases h
 | x::xs,y::ys,h1,h2,h3=>by
  simp only[lx,Bool.or_eq_false_iff,Bool.and_eq_false_iff,decide_eq_false_iff_not] at h2 h3
  have e:x=y:=by omega
  rw[e,Md xs ys (by simpa using h1) (h2.2.resolve_left (fun q=>q e)) (h3.2.resolve_left (fun q=>q e.symm))]
theorem FS (x y:Int):cmp_Compare_int x y=if x<y then -1 else if x>y then 1 else 0:=by
 unfold cmp_Compare_int cmp_isNaN_int
 simp only[bne_self_eq_false,cond_false]
 by_cases h:x<y
 ·rw[decide_eq_true h,cond_true,if_pos h]
 ·rw[decide_eq_false h,cond_false,if_neg h]
  by_cases h2:x>y
  ·rw[decide_eq_true h2,cond_true,if_pos h2]
  ·rw[decide_eq_false h2,cond_false,if_neg h2]
theorem CQ:∀ (xs ys:List Int) (k:Nat),xs.length=ys.length→decide (Sum.elim (fun _=>(0:Int)) (fun r=>r) (Jh (List.zipWith cmp_Compare_int xs ys) k)<0)=lx xs ys
 | [],[],k,_=>rfl
 | [],y::ys,k,h=>by cases h
 | x::xs,[],k,h=>by cases h
 | x::xs,y::ys,k,h=>by
  have ih:=CQ xs ys (k+1) (by simpa using h)
  rw[List.zipWith_cons_cons]
  unfold Jh lx
  rw[FS]
  by_cases h1:x<y
  ·rw[if_pos h1,decide_eq_true h1];rfl
  ·rw[if_neg h1,decide_eq_false h1,Bool.false_or]
   by_cases h2:x>y
   ·rw[if_pos h2,decide_eq_false (by omega:¬ x=y)];rfl
   ·rw[if_neg h2,decide_eq_true (by omega:x=y),Bool.true_and];exact ih
end Go.Srt
namespace Go.Srt
open Go Go.Eng Go.Sky Go.Proofs Go.Sort
def Bf (p:Zg):List Int:=[p.Time,p.Error,p.At.X,p.At.Y,p.Height,p.Code]
theorem Do (x y:Zg):ltOf YD x y=lx (Bf x) (Bf y):=CQ (Bf x) (Bf y) 0 rfl
theorem EU:SWO (ltOf YD):=by
 have irr:∀ x,ltOf YD x x=false:=fun x=>by
  cases h:ltOf YD x x with
  | false=>rfl
  | true=>rw[Do] at h;rw[Gq _ _ h] at h;cases h
 have ntr:∀ x y z,ltOf YD x y=false→ltOf YD y z=false→ltOf YD x z=false:=fun x y z h1 h2=>by
  rw[Do] at h1 h2 ⊢;exact Mc (Bf x) (Bf y) (Bf z) rfl rfl h1 h2
 refine⟨irr,fun x y z h1 h2=>?_,ntr⟩
 cases h:ltOf YD x z with
 | true=>rfl
 | false =>
  exfalso
  have h3:ltOf YD z y=false:=by rw[Do] at h2 ⊢;exact Gq _ _ h2
  rw[ntr x z y h h3] at h1;cases h1
theorem EV (x y:Zg) (h1:ltOf YD x y=false) (h2:ltOf YD y x=false):x=y:=by
 rw[Do] at h1 h2
 have:=Md (Bf x) (Bf y) rfl h1 h2
 obtain⟨xt,⟨xx,xy⟩,xh,xc,xe⟩:=x
 obtain⟨yt,⟨yx,yy⟩,yh,yc,ye⟩:=y
 simp[Bf] at this
 simp[this]
instance:Inhabited Zg:=⟨Zg.zero⟩
def VQ (l:List Zg):List Zg:=l.mergeSort (fun x y=>!ltOf YD y x)
theorem EW (x y:Zg) (W:World):Calls Tryz.prog 85 #[.agg (Zg.c x),.agg (Zg.c y)] W (Ret W (.int .i64 (YD x y))):=Hh x y W
set_option maxRecDepth 100000 in
theorem Me (A:Option Addr) (cap e:Nat) (l:List Zg) (w:World) (hM:Sat ⟨w,Xj [.inr (Own A cap e 6 (l.map Zg.c))]⟩ [.inr (Own A cap e 6 (l.map Zg.c))] w) :
  Calls Tryz.prog 84 #[.slice A l.length cap,.func (.func 85) #[] #[]] w (QW (Γ:=List Zg) ⟨w,Xj [.inr (Own A cap e 6 (l.map Zg.c))]⟩ (fun _=>.tuple #[])
   (fun r=>[.inr (XF (r.length=l.length∧r=VQ l)),.inr (Own A cap e 6 (r.map Zg.c))])) :=
 FR (P:=Tryz.prog) (c:=Zg.c) (k:=6) Tryz.laysSpot (fun _=>by kernel_rfl) (fun _=>by kernel_rfl) (fun _=>rfl) (fun x v hv=>by simp[Zg.c] at hv;rcases hv with rfl|rfl|rfl|rfl|rfl|rfl <;> rfl) YD EU 85 (fun _ _=>by kernel_rfl) EW EV A cap e l w hM
end Go.Srt
end
