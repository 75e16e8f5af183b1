/- Lemmas toward the given statement (part 19 of 20): Od PairLaw Oe PlanU Of. Each theorem states its own conditions; nothing is assumed beyond them. -/
import Derived.Test.YtjggkpkehdnhiaaGreatDoorBp18
import Derived.Test.YtjggkpkehdnhiaaGreatDoorBp08
import Derived.Test.YtjggkpkehdnhiaaGreatDoorBp02
set_option maxRecDepth 100000
section
namespace Go.Sky
open Go Go.Eng Go.Proofs
def Y4 (qm:List Int) (x:Track):List (List Zd)→Nat→(List Int)→(List Int)
 | [],_,row=>row
 | x_2::xs,k_2,row=>let r3:=Qx x x_2
  cond (!r3.2) (
   Y4 qm x xs (k_2+1) (row.set k_2 (-1))) (
   cond (x.Code != (-1)) (
    cond (x.Code != (qm[k_2]?.getD 0)) (
     Y4 qm x xs (k_2+1) (row.set k_2 (-1))) (
     cond (x.Code==(-1)) (
      let r4:=ZN x.At r3.1.Node.At
      Y4 qm x xs (k_2+1) (row.set k_2 (w64 ((w64 (r4.tdiv 10000))+1048576)))) (
      let r5:=ZN x.At r3.1.Node.At
      Y4 qm x xs (k_2+1) (row.set k_2 (w64 (r5.tdiv 10000)))))) (
    cond (x.Code==(-1)) (
     let r6:=ZN x.At r3.1.Node.At
     Y4 qm x xs (k_2+1) (row.set k_2 (w64 ((w64 (r6.tdiv 10000))+1048576)))) (
     let r7:=ZN x.At r3.1.Node.At
     Y4 qm x xs (k_2+1) (row.set k_2 (w64 (r7.tdiv 10000))))))
def Xz (ql:List (List Zd)) (qm:List Int):List Track→Nat→(List (List Int))→((List (List Int)) ⊕ ((List (List Int))×Int))
 | [],_,out=>.inl out
 | x::xs,k,out=>let r2:=Yt x
  cond (r2 != 0) (
   .inr ([],r2)) (
   YB (Y4 qm x ql 0 (List.replicate ((ql.length:Int).toNat) (0:Int))) (fun qv =>
    Xz ql qm xs (k+1) (out ++ [qv])))
def YX (qd:List Track) (ql:List (List Zd)) (qm:List Int):List (List Int)×Int :=
 cond (decide ((qd.length:Int)>32)) (
  ([],2)) (
  let r1:=XG ql qm
  cond (r1 != 0) (
   ([],r1)) (
   Sum.elim (fun qk =>
    (qk,0)) (fun r=>r) (Xz ql qm qd 0 ([]:List (List Int)))))
set_option maxHeartbeats 4000000 in
theorem ML (A_tracks:Option Addr) (qp:Nat) (qd:List Track) (A_tubes:Option Addr) (qu:Nat) (ql:List (List Zd)) (qj:List (Sl Zd)) (A_codes:Option Addr) (qw:Nat) (qm:List Int) (w:World) (j6:Rd w 13 A_tracks (qd.map Track.c)) (_hc_tracks:qd.length≤qp) (ji:Rd w 1 A_tubes (qj.map Sl.c)) (w9:ql.length≤qu) (x8:∀ s∈qj,s.rd w 6 Zd.c) (zj:ql=qj.map Sl.l) (jj:Rd w 1 A_codes (qm.map ic)) (ya:qm.length≤qw):Calls Tryz.prog 61 #[.slice A_tracks qd.length qp,.slice A_tubes ql.length qu,.slice A_codes qm.length qw] w (JH (Γ:=((Option Addr×Nat)×List (Sl Int))) (cx w) (fun g=>.tuple #[.slice g.1.1 ((YX qd ql qm).1.length) g.1.2,.int .i64 ((YX qd ql qm).2)]) (fun g=>[.inr (Qm ((YX qd ql qm).1=g.2.map Sl.l)),.inr (Own g.1.1 g.1.2 22 1 (g.2.map Sl.c)),.inr (Bag 3 1 ic g.2)])):=by
 have wz:=j6.short;rw[aD] at wz
 have wh:=ji.short;rw[← Jt zj] at wh
 have wj:=jj.short;rw[aD] at wj
 refine Zp (vs:=[.slice A_tracks qd.length qp,.slice A_tubes ql.length qu,.slice A_codes qm.length qw]) (w:=w) Tryz.func61 rfl Tryz.ntmps61 rfl (Zf (Zc 2 [] [(6,.slice none 0 0),(7,.i 0)] {} (Z1 (Zf (Zc 3 [] [(20,.b (decide ((qd.length:Int)>32)))] {} (Zb rfl (TC.cond (decide ((qd.length:Int)>32)) rfl Kr (fun h1=>?_) (fun h1=>?_))))))))
 ·refine Zf (Zc 2 [] [(6,.slice none 0 0),(7,.i 2)] {} (Zb rfl (TC.ret (Zo ?_))))
  have e:YX qd ql qm=([],2):=by unfold YX;exact Zm h1 (rfl)
  refine Yi [Ow none 0 22 1 (([]:List (Sl Int)).map Sl.c),.inr (Bag 3 1 ic ([]:List (Sl Int)))] (fun _ hM=>(hM.bag_nil 3 1 ic).emptyrow none 22 1) ?_
  rw[e]
  exact ZO (.inl rfl) ((none,0),([]:List (Sl Int))) [] (.tuple #[.slice none 0 0,.i 2]) {} rfl (fun _ hM=>(hM.sub (sb 3)).fact rfl)
 ·have vm:=(Zv h1)
  refine Yg (TC.seq (Zf (Zc 2 [] [(21,.slice A_tubes ql.length qu),(22,.slice A_codes qm.length qw)] {} (TL.c 23 (XG ql qm) (fun r1=>.i r1) (fun w hM=>Ht A_tubes qu ql qj A_codes qw qm w (ji.sat hM) w9 (fun s hs=>(x8 s hs).sat hM) zj (jj.sat hM) ya) {} (fun r1 hr1=>Zc 4 [] [(8,.i r1)] {} (Zz (Zc 2 [] [(25,.b (r1 != 0))] {} (Zb rfl (TC.cond (r1 != 0) rfl Kr (fun h2=>?_) (fun h2=>?_))))))))))
  ·refine Zf (Zc 3 [] [(6,.slice none 0 0),(7,.i r1)] {} (Zb rfl (TC.ret (Zo ?_))))
   have e:YX qd ql qm=([],r1):=by subst hr1;unfold YX;exact Ze h1 (Zm h2 (rfl))
   refine Yi [Ow none 0 22 1 (([]:List (Sl Int)).map Sl.c),.inr (Bag 3 1 ic ([]:List (Sl Int)))] (fun _ hM=>(hM.bag_nil 3 1 ic).emptyrow none 22 1) ?_
   rw[e]
   exact ZO (.inl rfl) ((none,0),([]:List (Sl Int))) [] (.tuple #[.slice none 0 0,.i r1]) {} rfl (fun _ hM=>(hM.sub (sb 3)).fact rfl)
  ·have k9:=(QA h2)
   refine Yc (Zc 1 [] [(9,.slice none 0 0)] {} (Z1 (Zf (Zc 3 [] [(27,.slice A_tracks qd.length qp),(28,.i (qd.length:Int)),(29,.i 0)] {} (Zb rfl (Q0 [Ow none 0 22 1 (([]:List (Sl Int)).map Sl.c),.inr (Bag 3 1 ic ([]:List (Sl Int)))] (fun _ hM=>(hM.bag_nil 3 1 ic).emptyrow none 22 1) ?_))))))
   obtain⟨R4,hR⟩:∃ R,R=Xz ql qm qd 0 ([]:List (List Int)):=⟨_,rfl⟩
   refine TC.cut (S:=(List (List Int))×(Option Addr)×Nat×(List (Sl Int))) (fun (qk,A_out_2,qe,jq)=>[(9,.slice A_out_2 qk.length qe)]) (fun (qk,A_out_2,qe,jq)=>[Ow A_out_2 qe 22 1 (jq.map Sl.c),.inr (Bag 3 1 ic jq)]) (fun (qk,A_out_2,qe,jq)=>R4=.inl qk∧qk.length≤qd.length∧(qk=jq.map Sl.l)) ?_ ?_
   ·refine TC.block (Xp (X:=Nat×(List (List Int))×(Option Addr)×Nat×(List (Sl Int))) (fun (k,out,A_out,qh,zn)=>[(1,.slice A_tubes ql.length qu),(2,.slice A_codes qm.length qw),(9,.slice A_out out.length qh),(27,.slice A_tracks qd.length qp),(28,.i (qd.length:Int)),(29,.i (k:Int))]) (fun (k,out,A_out,qh,zn)=>[Ow A_out qh 22 1 (zn.map Sl.c),.inr (Bag 3 1 ic zn)]) (fun (k,out,A_out,qh,zn)=>qd.length-k) (fun (k,out,A_out,qh,zn)=>k≤qd.length∧R4=Xz ql qm (qd.drop k) k out∧out.length≤k∧(out=zn.map Sl.l)) ?_ (0,([]:List (List Int)),none,0,([]:List (Sl Int))) ⟨aP _,hR,sz,rfl⟩ Kr (sb 3))
    rintro⟨k,out,A_out,qh,zn⟩ ⟨hk,hI,kn,jk⟩
    refine Zf (Zc 1 [] [(30,.b (decide ((k:Int)<(qd.length:Int))))] {} (Z1 (TC.cond (decide ((k:Int)<(qd.length:Int))) rfl Kr (fun h3=>?_) (fun h3=>?_))))
    ·have hlt:=ltN h3
     obtain⟨x,hx⟩:=elN hlt
     have hd:=drop_at hx
     refine Yg (TC.seq (TC.block (Zf (TL.v (sV (Instr.indexAt 57 (.slice A_tracks qd.length qp) (.i (k:Int)))) 31 (.pointer (some (Ix A_tracks (k*13)))) (fun w hM=>Zr (j6.sat hM) (by simp) Kr (by (try have kc_:=Zx hr1 ‹_›);exact sd) (by (try have kc_:=Zx hr1 ‹_›);exact sd)) {} (TL.v (sV (Instr.loadAt 40 (.pointer (some (Ix A_tracks (k*13)))))) 32 (Track.v x) (fun w hM=>Z9 (n:=13) (off:=0) (i:=k) (Track.v x) (j6.sat hM) (Z6 hx) Kr Kr Kr) {} (ZA 11 (fun b1=>.p0 b1) (fun b1=>Bk b1 (Track.c Track.zero) 40) (fun b1=>{}) (fun b1=>Yp 0 (Bk b1 (Track.c x) 40) (fun _=>{}) (Z1 (Zf (Zc 1 [0] [(33,Track.v x)] {} (TL.c 34 (Yt x) (fun r2=>.i r2) (fun w _=>K5 x w) {} (fun r2 hr2=>Zc 3 [] [(12,.i r2)] {} (Zz (Zc 2 [] [(36,.b (r2 != 0))] {} (Zb rfl (TC.cond (r2 != 0) rfl Kr (fun h4=>?_) (fun h4=>?_)))))))))))))))))
     ·refine Zf (Zc 3 [] [(6,.slice none 0 0),(7,.i r2)] {} (Zb rfl (TC.ret (Zo (ZL (Zo (Zo (ZL (Zo (Zo ?_))))))))))
      have e:YX qd ql qm=([],r2):=by subst hr1 hr2;unfold YX;exact Ze h1 (Ze h2 (Xh (hR.symm.trans (hI.trans (by rw[hd];exact Zm h4 (rfl)))) rfl))
      refine Yi [Ow none 0 22 1 (([]:List (Sl Int)).map Sl.c),.inr (Bag 3 1 ic ([]:List (Sl Int))),Bk b1 (Track.c x) 40,Ow A_out qh 22 1 (zn.map Sl.c),.inr (Bag 3 1 ic zn)] (fun _ hM=>(hM.bag_nil 3 1 ic).emptyrow none 22 1) ?_
      rw[e]
      exact ZO (.inl rfl) ((none,0),([]:List (Sl Int))) [] (.tuple #[.slice none 0 0,.i r2]) {} rfl (fun _ hM=>(hM.sub (sb 3)).fact rfl)
     ·have yq:=(QA h4)
      refine Yc (Zc 2 [] [(39,.i (ql.length:Int))] {} (TL.on (Γ:=AN) (sV (Instr.makeSlice 22 (.i (ql.length:Int)) (.i (ql.length:Int)))) 40 (fun g=>.slice g.1 (List.replicate ((ql.length:Int).toNat) (0:Int)).length g.2) (fun g=>Ow g.1 g.2 3 1 ((List.replicate ((ql.length:Int).toNat) (0:Int)).map ic)) (KX (P:=Tryz.prog) (c:=ic) (t:=22) (e:=3) (sz:=1) (bytes:=8) 0 .i64 .i64 ((ql.length:Int).toNat) Kr Kr (by (try have kc_:=Zx hr1 ‹_›);exact sd) (by (try have kc_:=Zx hr1 ‹_›);exact sd)) {} ?_))
      rintro⟨A,c⟩
      refine Zc 4 [] [(13,.slice A ((List.replicate ((ql.length:Int).toNat) (0:Int)).length) c)] {} (Z1 (Zf (Zc 3 [] [(41,.slice A_tubes ql.length qu),(42,.i (ql.length:Int)),(43,.i 0)] {} (Zb rfl ?_))))
      obtain⟨R7,xo⟩:∃ R,R=Y4 qm x ql 0 (List.replicate ((ql.length:Int).toNat) (0:Int)):=⟨_,rfl⟩
      refine TC.cut (S:=(List Int)) (fun qv=>[(1,.slice A_tubes ql.length qu),(2,.slice A_codes qm.length qw),(9,.slice A_out out.length qh),(13,.slice A qv.length c),(27,.slice A_tracks qd.length qp),(28,.i (qd.length:Int)),(29,.i (k:Int))]) (fun qv=>[Ow A c 3 1 (qv.map ic),Ow A_out qh 22 1 (zn.map Sl.c),.inr (Bag 3 1 ic zn)]) (fun qv=>R7=qv∧qv.length=((ql.length:Int).toNat)) ?_ ?_
      ·refine TC.block (Xp (X:=Nat×(List Int)) (fun (k_2,row)=>[(1,.slice A_tubes ql.length qu),(2,.slice A_codes qm.length qw),(9,.slice A_out out.length qh),(11,.p0 b1),(13,.slice A row.length c),(27,.slice A_tracks qd.length qp),(28,.i (qd.length:Int)),(29,.i (k:Int)),(41,.slice A_tubes ql.length qu),(42,.i (ql.length:Int)),(43,.i (k_2:Int))]) (fun (k_2,row)=>[Ow A c 3 1 (row.map ic),Bk b1 (Track.c x) 40,Ow A_out qh 22 1 (zn.map Sl.c),.inr (Bag 3 1 ic zn)]) (fun (k_2,row)=>ql.length-k_2) (fun (k_2,row)=>k_2≤ql.length∧R7=Y4 qm x (ql.drop k_2) k_2 row∧row.length=((ql.length:Int).toNat)) ?_ (0,(List.replicate ((ql.length:Int).toNat) (0:Int))) ⟨aP _,xo,sz⟩ Kr (sb 15))
       rintro⟨k_2,row⟩ ⟨y4,xg,sj⟩
       refine Zf (Zc 1 [] [(44,.b (decide ((k_2:Int)<(ql.length:Int))))] {} (Z1 (TC.cond (decide ((k_2:Int)<(ql.length:Int))) rfl Kr (fun h5=>?_) (fun h5=>?_))))
       ·have zk:=ltN h5
        obtain⟨x_2,jf⟩:=elN zk
        have zr:=drop_at jf
        refine Yg (TC.seq (TC.block (Zf (Zc 1 [] [(45,.i (k_2:Int))] {} (TL.v (sV (Instr.indexAt 67 (.slice A_tubes ql.length qu) (.i (k_2:Int)))) 46 (.pointer (some (Ix A_tubes (k_2*1)))) (fun w hM=>Zr (ji.sat hM) (Jt zj) Kr (by (try have kc_:=Zx hr1 ‹_›);exact sd) (by (try have kc_:=Zx hr1 ‹_›);exact sd)) {} ?_)))))
        have w5:=(JD (XS x8 k_2) (JW zj jf)).short;rw[aD] at w5
        refine TL.v (sV (Instr.loadAt 74 (.pointer (some (Ix A_tubes (k_2*1)))))) 47 (.slice ((qj[k_2]?.getD Sl.zero).A) x_2.length ((qj[k_2]?.getD Sl.zero).cap)) (fun w hM=>(by have h:=Zu (P:=Tryz.prog) (T:=74) (off:=0) (i:=k_2) (.slice (qj[k_2]?.getD Sl.zero).A (qj[k_2]?.getD Sl.zero).l.length (qj[k_2]?.getD Sl.zero).cap) (ji.sat hM) (Z6 (getD_at _ _ Sl.zero (U9 zj (aK.1 jf).1))) Kr Kr;rw[(JW zj jf)] at h;exact h)) {} ?_
        refine Zc 5 [] [(14,.i (k_2:Int)),(15,.slice ((qj[k_2]?.getD Sl.zero).A) x_2.length ((qj[k_2]?.getD Sl.zero).cap))] {} (Zz (Zc 2 [1] [(49,Track.v x),(50,.slice ((qj[k_2]?.getD Sl.zero).A) x_2.length ((qj[k_2]?.getD Sl.zero).cap))] {} (TL.c 51 (Qx x x_2) (fun r3=>.tuple #[Zd.v r3.1,.b r3.2]) (fun w hM=>Ro x ((qj[k_2]?.getD Sl.zero).A) ((qj[k_2]?.getD Sl.zero).cap) x_2 w (JD ((XS x8 k_2).sat hM) (JW zj jf)) (Lh ((XS x8 k_2).sat hM) (JW zj jf))) {} (fun r3 hr3=>Zc 6 [] [(52,Zd.v r3.1),(53,.b r3.2)] {} (ZA 16 (fun b2=>.p0 b2) (fun b2=>Bk b2 (Zd.c Zd.zero) 71) (fun b2=>{}) (fun b2=>Yp 0 (Bk b2 (Zd.c r3.1) 71) (fun _=>{}) (Zc 9 [] [(17,.b r3.2)] {} (Zb rfl (TC.block (TC.seq (Kx 17 Kr Kr Kr (YY 3 [] [(67,.b (!r3.2))] {} (KE 67 (!r3.2) Kr (fun h6=>?_) (fun h6=>?_))))))))))))))
        ·exact YY 17 [] [(64,.b true)] {} (Q1 rfl (Xg rfl Kr (TC.region (Zc 2 [] [(81,.slice A row.length c),(82,.i (k_2:Int))] {} (TL.v (sV (Instr.indexAt 22 (.slice A row.length c) (.i (k_2:Int)))) 83 (.pointer (some (Ix A (k_2*1)))) (fun w hM=>Zr (hM.rd_at 1 rfl) (by simp) Kr (by (try have kc_:=Zx hr1 ‹_›);exact sd) (by (try have kc_:=Zx hr1 ‹_›);exact sd)) {} (KF (Γ:=Unit) (sU (Instr.storeAt 3 (.pointer (some ((Ix A (k_2*1)).add 0))) (.i (-1)))) 1 (Ow A c 3 1 ((row.set k_2 (-1)).map ic)) (Y2 (n:=1) (off:=0) (.i (-1)) 1 ((row.set k_2 (-1)).map ic) rfl (Z6 (getD_at _ _ 0 (by (try have kc_:=Zx hr1 ‹_›);exact sd))) Kr Kr Kr Kr (YJ Kr)) Kr (TL.rw 13 (.slice A row.length c) (.slice A ((row.set k_2 (-1)).length) c) Kr (by simp only[aL]) (Zw rfl (ZY (ZY (Z3 (TC.region (Zc 2 [] [(43,.i (w64 ((k_2:Int)+1)))] {} (Zw rfl (TE.rw 43 (.i (w64 ((k_2:Int)+1))) (.i ((k_2+1:Nat):Int)) Kr (ZD k_2 (by (try have kc_:=Zx hr1 ‹_›);omega)) (Z4 (x:=(k_2,row)) (k_2+1,(row.set k_2 (-1))) ⟨by omega,xg.trans (by subst hr1 hr2 hr3;rw[zr];exact Zm h6 (rfl)),(by (try have kc_:=Zx hr1 ‹_›);exact sl)⟩ (mN zk) Kr (sb 30)))))))))))))))))
        ·refine YY 7 [2] [(71,.b (x.Code != (-1)))] {} (KE 71 (x.Code != (-1)) Kr (fun h7=>?_) (fun h7=>?_))
         ·have yr:=(F5 h7)
          refine YY 11 [2] [(73,.i x.Code),(74,.slice A_codes qm.length qw),(75,.i (k_2:Int))] {} (TQ.v (sV (Instr.indexAt 22 (.slice A_codes qm.length qw) (.i (k_2:Int)))) 76 (.pointer (some (Ix A_codes (k_2*1)))) (fun w hM=>Zr (jj.sat hM) (by simp) Kr (by (try have kc_:=Zx hr1 ‹_›);exact sd) (by (try have kc_:=Zx hr1 ‹_›);exact sd)) rfl {} (TQ.v (sV (Instr.loadAt 3 (.pointer (some (Ix A_codes (k_2*1)))))) 77 (.i (qm[k_2]?.getD 0)) (fun w hM=>Zu (off:=0) (i:=k_2) (.i (qm[k_2]?.getD 0)) (jj.sat hM) (Z6 (getD_at _ _ 0 (by (try have kc_:=Zx hr1 ‹_›);exact sd))) Kr Kr) rfl {} (YY 17 [] [(64,.b (x.Code != (qm[k_2]?.getD 0)))] {} (Q1 rfl (TC.cond (x.Code != (qm[k_2]?.getD 0)) rfl Kr (fun h8=>?_) (fun h8=>?_))))))
          ·have fk:=(F5 h8)
           exact TC.region (Zc 2 [] [(81,.slice A row.length c),(82,.i (k_2:Int))] {} (TL.v (sV (Instr.indexAt 22 (.slice A row.length c) (.i (k_2:Int)))) 83 (.pointer (some (Ix A (k_2*1)))) (fun w hM=>Zr (hM.rd_at 1 rfl) (by simp) Kr (by (try have kc_:=Zx hr1 ‹_›);exact sd) (by (try have kc_:=Zx hr1 ‹_›);exact sd)) {} (KF (Γ:=Unit) (sU (Instr.storeAt 3 (.pointer (some ((Ix A (k_2*1)).add 0))) (.i (-1)))) 1 (Ow A c 3 1 ((row.set k_2 (-1)).map ic)) (Y2 (n:=1) (off:=0) (.i (-1)) 1 ((row.set k_2 (-1)).map ic) rfl (Z6 (getD_at _ _ 0 (by (try have kc_:=Zx hr1 ‹_›);exact sd))) Kr Kr Kr Kr (YJ Kr)) Kr (TL.rw 13 (.slice A row.length c) (.slice A ((row.set k_2 (-1)).length) c) Kr (by simp only[aL]) (Zw rfl (ZY (ZY (Z3 (TC.region (Zc 2 [] [(43,.i (w64 ((k_2:Int)+1)))] {} (Zw rfl (TE.rw 43 (.i (w64 ((k_2:Int)+1))) (.i ((k_2+1:Nat):Int)) Kr (ZD k_2 (by (try have kc_:=Zx hr1 ‹_›);omega)) (Z4 (x:=(k_2,row)) (k_2+1,(row.set k_2 (-1))) ⟨by omega,xg.trans (by subst hr1 hr2 hr3;rw[zr];exact Ze h6 (Zm h7 (Zm h8 (rfl)))),(by (try have kc_:=Zx hr1 ‹_›);exact sl)⟩ (mN zk) Kr (sb 30))))))))))))))
          ·have fk:=(QA h8)
           refine Zf (Zc 4 [2] [(84,.b (x.Code==(-1)))] {} (Zb rfl (TC.cond (x.Code==(-1)) rfl Kr (fun h9=>?_) (fun h9=>?_))))
           ·have dc:=(YT h9)
            exact TC.region (Zc 7 [2,0] [(88,.slice A row.length c),(89,.i (k_2:Int)),(91,P.v x.At),(94,P.v r3.1.Node.At)] {} (TL.c 95 (ZN x.At r3.1.Node.At) (fun r4=>.i r4) (fun w _=>Ju x.At r3.1.Node.At w) {} (fun r4 hr4=>Zc 10 [] [(97,.i (w64 ((w64 (r4.tdiv 10000))+1048576)))] {} (TL.v (sV (Instr.indexAt 22 (.slice A row.length c) (.i (k_2:Int)))) 98 (.pointer (some (Ix A (k_2*1)))) (fun w hM=>Zr (hM.rd_at 1 rfl) (by simp) Kr (by (try have kc_:=Zx hr1 ‹_›);exact sd) (by (try have kc_:=Zx hr1 ‹_›);exact sd)) {} (KF (Γ:=Unit) (sU (Instr.storeAt 3 (.pointer (some ((Ix A (k_2*1)).add 0))) (.i (w64 ((w64 (r4.tdiv 10000))+1048576))))) 1 (Ow A c 3 1 ((row.set k_2 (w64 ((w64 (r4.tdiv 10000))+1048576))).map ic)) (Y2 (n:=1) (off:=0) (.i (w64 ((w64 (r4.tdiv 10000))+1048576))) 1 ((row.set k_2 (w64 ((w64 (r4.tdiv 10000))+1048576))).map ic) rfl (Z6 (getD_at _ _ 0 (by (try have kc_:=Zx hr1 ‹_›);exact sd))) Kr Kr Kr Kr (YJ Kr)) Kr (TL.rw 13 (.slice A row.length c) (.slice A ((row.set k_2 (w64 ((w64 (r4.tdiv 10000))+1048576))).length) c) Kr (by simp only[aL]) (Zw rfl (ZY (ZY (Z3 (TC.region (Zc 2 [] [(43,.i (w64 ((k_2:Int)+1)))] {} (Zw rfl (TE.rw 43 (.i (w64 ((k_2:Int)+1))) (.i ((k_2+1:Nat):Int)) Kr (ZD k_2 (by (try have kc_:=Zx hr1 ‹_›);omega)) (Z4 (x:=(k_2,row)) (k_2+1,(row.set k_2 (w64 ((w64 (r4.tdiv 10000))+1048576)))) ⟨by omega,xg.trans (by subst hr1 hr2 hr3 hr4;rw[zr];exact Ze h6 (Zm h7 (Ze h8 (Zm h9 (rfl))))),(by (try have kc_:=Zx hr1 ‹_›);exact sl)⟩ (mN zk) Kr (sb 30))))))))))))))))
           ·have dc:=(Yl h9)
            exact TC.region (Zc 7 [2,0] [(54,.slice A row.length c),(55,.i (k_2:Int)),(57,P.v x.At),(60,P.v r3.1.Node.At)] {} (TL.c 61 (ZN x.At r3.1.Node.At) (fun r5=>.i r5) (fun w _=>Ju x.At r3.1.Node.At w) {} (fun r5 hr5=>Zc 9 [] [(62,.i (w64 (r5.tdiv 10000)))] {} (TL.v (sV (Instr.indexAt 22 (.slice A row.length c) (.i (k_2:Int)))) 63 (.pointer (some (Ix A (k_2*1)))) (fun w hM=>Zr (hM.rd_at 1 rfl) (by simp) Kr (by (try have kc_:=Zx hr1 ‹_›);exact sd) (by (try have kc_:=Zx hr1 ‹_›);exact sd)) {} (KF (Γ:=Unit) (sU (Instr.storeAt 3 (.pointer (some ((Ix A (k_2*1)).add 0))) (.i (w64 (r5.tdiv 10000))))) 1 (Ow A c 3 1 ((row.set k_2 (w64 (r5.tdiv 10000))).map ic)) (Y2 (n:=1) (off:=0) (.i (w64 (r5.tdiv 10000))) 1 ((row.set k_2 (w64 (r5.tdiv 10000))).map ic) rfl (Z6 (getD_at _ _ 0 (by (try have kc_:=Zx hr1 ‹_›);exact sd))) Kr Kr Kr Kr (YJ Kr)) Kr (TL.rw 13 (.slice A row.length c) (.slice A ((row.set k_2 (w64 (r5.tdiv 10000))).length) c) Kr (by simp only[aL]) (Zw rfl (ZY (ZY (Z3 (TC.region (Zc 2 [] [(43,.i (w64 ((k_2:Int)+1)))] {} (Zw rfl (TE.rw 43 (.i (w64 ((k_2:Int)+1))) (.i ((k_2+1:Nat):Int)) Kr (ZD k_2 (by (try have kc_:=Zx hr1 ‹_›);omega)) (Z4 (x:=(k_2,row)) (k_2+1,(row.set k_2 (w64 (r5.tdiv 10000)))) ⟨by omega,xg.trans (by subst hr1 hr2 hr3 hr5;rw[zr];exact Ze h6 (Zm h7 (Ze h8 (Ze h9 (rfl))))),(by (try have kc_:=Zx hr1 ‹_›);exact sl)⟩ (mN zk) Kr (sb 30))))))))))))))))
         ·have yr:=(QA h7)
          refine YY 17 [] [(64,.b false)] {} (Q1 rfl (J1 rfl Kr (Zf (Zc 4 [2] [(84,.b (x.Code==(-1)))] {} (Zb rfl (TC.cond (x.Code==(-1)) rfl Kr (fun h10=>?_) (fun h10=>?_)))))))
          ·have uy:=(YT h10)
           exact TC.region (Zc 7 [2,0] [(88,.slice A row.length c),(89,.i (k_2:Int)),(91,P.v x.At),(94,P.v r3.1.Node.At)] {} (TL.c 95 (ZN x.At r3.1.Node.At) (fun r6=>.i r6) (fun w _=>Ju x.At r3.1.Node.At w) {} (fun r6 hr6=>Zc 10 [] [(97,.i (w64 ((w64 (r6.tdiv 10000))+1048576)))] {} (TL.v (sV (Instr.indexAt 22 (.slice A row.length c) (.i (k_2:Int)))) 98 (.pointer (some (Ix A (k_2*1)))) (fun w hM=>Zr (hM.rd_at 1 rfl) (by simp) Kr (by (try have kc_:=Zx hr1 ‹_›);exact sd) (by (try have kc_:=Zx hr1 ‹_›);exact sd)) {} (KF (Γ:=Unit) (sU (Instr.storeAt 3 (.pointer (some ((Ix A (k_2*1)).add 0))) (.i (w64 ((w64 (r6.tdiv 10000))+1048576))))) 1 (Ow A c 3 1 ((row.set k_2 (w64 ((w64 (r6.tdiv 10000))+1048576))).map ic)) (Y2 (n:=1) (off:=0) (.i (w64 ((w64 (r6.tdiv 10000))+1048576))) 1 ((row.set k_2 (w64 ((w64 (r6.tdiv 10000))+1048576))).map ic) rfl (Z6 (getD_at _ _ 0 (by (try have kc_:=Zx hr1 ‹_›);exact sd))) Kr Kr Kr Kr (YJ Kr)) Kr (TL.rw 13 (.slice A row.length c) (.slice A ((row.set k_2 (w64 ((w64 (r6.tdiv 10000))+1048576))).length) c) Kr (by simp only[aL]) (Zw rfl (ZY (ZY (Z3 (TC.region (Zc 2 [] [(43,.i (w64 ((k_2:Int)+1)))] {} (Zw rfl (TE.rw 43 (.i (w64 ((k_2:Int)+1))) (.i ((k_2+1:Nat):Int)) Kr (ZD k_2 (by (try have kc_:=Zx hr1 ‹_›);omega)) (Z4 (x:=(k_2,row)) (k_2+1,(row.set k_2 (w64 ((w64 (r6.tdiv 10000))+1048576)))) ⟨by omega,xg.trans (by subst hr1 hr2 hr3 hr6;rw[zr];exact Ze h6 (Ze h7 (Zm h10 (rfl)))),(by (try have kc_:=Zx hr1 ‹_›);exact sl)⟩ (mN zk) Kr (sb 30))))))))))))))))
          ·have uy:=(Yl h10)
           exact TC.region (Zc 7 [2,0] [(54,.slice A row.length c),(55,.i (k_2:Int)),(57,P.v x.At),(60,P.v r3.1.Node.At)] {} (TL.c 61 (ZN x.At r3.1.Node.At) (fun r7=>.i r7) (fun w _=>Ju x.At r3.1.Node.At w) {} (fun r7 hr7=>Zc 9 [] [(62,.i (w64 (r7.tdiv 10000)))] {} (TL.v (sV (Instr.indexAt 22 (.slice A row.length c) (.i (k_2:Int)))) 63 (.pointer (some (Ix A (k_2*1)))) (fun w hM=>Zr (hM.rd_at 1 rfl) (by simp) Kr (by (try have kc_:=Zx hr1 ‹_›);exact sd) (by (try have kc_:=Zx hr1 ‹_›);exact sd)) {} (KF (Γ:=Unit) (sU (Instr.storeAt 3 (.pointer (some ((Ix A (k_2*1)).add 0))) (.i (w64 (r7.tdiv 10000))))) 1 (Ow A c 3 1 ((row.set k_2 (w64 (r7.tdiv 10000))).map ic)) (Y2 (n:=1) (off:=0) (.i (w64 (r7.tdiv 10000))) 1 ((row.set k_2 (w64 (r7.tdiv 10000))).map ic) rfl (Z6 (getD_at _ _ 0 (by (try have kc_:=Zx hr1 ‹_›);exact sd))) Kr Kr Kr Kr (YJ Kr)) Kr (TL.rw 13 (.slice A row.length c) (.slice A ((row.set k_2 (w64 (r7.tdiv 10000))).length) c) Kr (by simp only[aL]) (Zw rfl (ZY (ZY (Z3 (TC.region (Zc 2 [] [(43,.i (w64 ((k_2:Int)+1)))] {} (Zw rfl (TE.rw 43 (.i (w64 ((k_2:Int)+1))) (.i ((k_2+1:Nat):Int)) Kr (ZD k_2 (by (try have kc_:=Zx hr1 ‹_›);omega)) (Z4 (x:=(k_2,row)) (k_2+1,(row.set k_2 (w64 (r7.tdiv 10000)))) ⟨by omega,xg.trans (by subst hr1 hr2 hr3 hr7;rw[zr];exact Ze h6 (Ze h7 (Ze h10 (rfl)))),(by (try have kc_:=Zx hr1 ‹_›);exact sl)⟩ (mN zk) Kr (sb 30))))))))))))))))
       ·have zr:=Qb h5
        refine TC.exit (ZT (ZT (Z0 ?_)))
        exact TE.cut row (⟨xg.trans (by subst hr1 hr2;rw[zr];exact rfl),(by (try have kc_:=Zx hr1 ‹_›);exact sl)⟩) Kr (sb 13)
      ·rintro qv ⟨jv,gy⟩
       refine Z3 (TC.region (Zc 2 [] [(100,.slice A_out out.length qh),(101,.slice A qv.length c)] {} (ZA 102 (fun b3=>.slice (Pa b3) 1 1) (fun b3=>Bk b3 #[.slice A qv.length c] 22) (fun b3=>{}) (fun b3=>TL.rw 100 (.slice A_out out.length qh) (.slice A_out zn.length qh) Kr (by rw[JC jk]) (Fa (Γ:=AN) (sV (Builtin.append_ #[132,132] 132 #[.slice A_out zn.length qh,.slice (Pa b3) 1 1])) (some 103) (fun g=>.slice g.1 (zn ++ [(⟨A,c,qv⟩:Sl Int)]).length g.2) (fun g=>[Bk b3 #[.slice A qv.length c] 22,Ow A c 3 1 (qv.map ic),Ow g.1 g.2 22 1 ((zn ++ [(⟨A,c,qv⟩:Sl Int)]).map Sl.c),.inr (Bag 3 1 ic zn)]) (fun g=>[(1,.slice A_tubes ql.length qu),(2,.slice A_codes qm.length qw),(27,.slice A_tracks qd.length qp),(28,.i (qd.length:Int)),(29,.i (k:Int)),(103,.slice g.1 ((zn ++ [(⟨A,c,qv⟩:Sl Int)]).length) g.2)]) (QE (bytes:=24) 132 2 [(⟨A,c,qv⟩:Sl Int)] Kr rfl rfl Sl.one rfl (fun w hM=>(Rd.lit hM 0 _ rfl Kr Kr Kr)) rfl (by have hz_:=JC jk;rw[← hz_];exact(by (try have kc_:=Zx hr1 ‹_›);exact sa))) Kr (fun g=>Kr) ?_)))))
       rintro⟨A_2,c_2⟩
       exact TL.rw 103 (.slice A_2 ((zn ++ [(⟨A,c,qv⟩:Sl Int)]).length) c_2) (.slice A_2 ((out ++ [qv]).length) c_2) Kr (by rw[← JC (Gy (s:=(⟨A,c,qv⟩:Sl Int)) jk)]) (Xm [.inr (Bag 3 1 ic (zn ++ [(⟨A,c,qv⟩:Sl Int)])),Bk b3 #[.slice A qv.length c] 22,Ow A_2 c_2 22 1 ((zn ++ [(⟨A,c,qv⟩:Sl Int)]).map Sl.c)] (fun _ hM=>Sat.bag_add (hM.perm (((List.Perm.cons _ (aC _)).trans (List.Perm.swap _ _ _)).trans (List.Perm.cons _ (((List.Perm.cons _ ((List.Perm.cons _ (aC _)).trans (List.Perm.swap _ _ _))).trans (List.Perm.swap _ _ _)).trans (List.Perm.cons _ (aC _))))))) (Xm [Ow A_2 c_2 22 1 ((zn ++ [(⟨A,c,qv⟩:Sl Int)]).map Sl.c),.inr (Bag 3 1 ic (zn ++ [(⟨A,c,qv⟩:Sl Int)])),Bk b3 #[.slice A qv.length c] 22] (fun _ hM=>hM.perm (px [2,0,1])) (Zc 5 [] [(9,.slice A_2 ((out ++ [qv]).length) c_2)] {} (Zw rfl (ZY (Z3 (TC.region (Zc 2 [] [(29,.i (w64 ((k:Int)+1)))] {} (Zw rfl (TE.rw 29 (.i (w64 ((k:Int)+1))) (.i ((k+1:Nat):Int)) Kr (ZD k (by (try have kc_:=Zx hr1 ‹_›);omega)) (Z4 (x:=(k,out,A_out,qh,zn)) (k+1,(out ++ [qv]),A_2,c_2,(zn ++ [(⟨A,c,qv⟩:Sl Int)])) ⟨by omega,hI.trans (by subst hr1 hr2;rw[hd];exact Ze h4 (Yr (xo.symm.trans jv) (rfl))),(by (try have kc_:=Zx hr1 ‹_›);exact sl),(Gy (s:=(⟨A,c,qv⟩:Sl Int)) jk)⟩ (mN hlt) Kr (sb 3))))))))))))
    ·have hd:=Qb h3
     refine TC.exit (ZT (ZT (Z0 ?_)))
     exact TE.cut (out,A_out,qh,zn) (⟨hI.trans (by subst hr1;rw[hd];exact rfl),(by (try have kc_:=Zx hr1 ‹_›);exact sl),jk⟩) Kr (sb 3)
   ·rintro⟨qk,A_out_2,qe,jq⟩ ⟨hJ,jw,w4⟩
    refine YC (Zc 3 [] [(6,.slice A_out_2 qk.length qe),(7,.i 0)] {} (Zb rfl (TC.ret ?_)))
    have e:YX qd ql qm=(qk,0):=by subst hr1;unfold YX;exact Ze h1 (Ze h2 (Q3 (hR.symm.trans hJ) (rfl)))
    rw[e]
    exact ZO (.inl rfl) ((A_out_2,qe),jq) [] (.tuple #[.slice A_out_2 qk.length qe,.i 0]) {} rfl (fun _ hM=>(hM.sub (sb 3)).fact w4)
def QJ (qd:List Track) (ql:List (List Zd)) (qm:List Int):List Int×Int :=
 let r1:=YX qd ql qm
 cond (r1.2 != 0) (
  ([],r1.2)) (
  let r2:=Y5 r1.1 2147483648
  (r2.1,r2.2.2))
theorem Rq (A_tracks:Option Addr) (qp:Nat) (qd:List Track) (A_tubes:Option Addr) (qu:Nat) (ql:List (List Zd)) (qj:List (Sl Zd)) (A_codes:Option Addr) (qw:Nat) (qm:List Int) (w:World) (j6:Rd w 13 A_tracks (qd.map Track.c)) (di:qd.length≤qp) (ji:Rd w 1 A_tubes (qj.map Sl.c)) (w9:ql.length≤qu) (x8:∀ s∈qj,s.rd w 6 Zd.c) (zj:ql=qj.map Sl.l) (jj:Rd w 1 A_codes (qm.map ic)) (ya:qm.length≤qw):Calls Tryz.prog 27 #[.slice A_tracks qd.length qp,.slice A_tubes ql.length qu,.slice A_codes qm.length qw] w (JH (Γ:=(Option Addr×Nat)) (cx w) (fun g=>.tuple #[.slice g.1 ((QJ qd ql qm).1.length) g.2,.int .i64 ((QJ qd ql qm).2)]) (fun g=>[.inr (Own g.1 g.2 3 1 (((QJ qd ql qm).1).map ic))])):=by
 have wz:=j6.short;rw[aD] at wz
 have wh:=ji.short;rw[← Jt zj] at wh
 have wj:=jj.short;rw[aD] at wj
 refine Zp (vs:=[.slice A_tracks qd.length qp,.slice A_tubes ql.length qu,.slice A_codes qm.length qw]) (w:=w) Tryz.func27 rfl Tryz.ntmps27 rfl (Zf (Zc 2 [] [(6,.slice none 0 0),(7,.i 0)] {} (Zz (Zc 3 [] [(13,.slice A_tracks qd.length qp),(14,.slice A_tubes ql.length qu),(15,.slice A_codes qm.length qw)] {} (VI (Γ:=(AN×List (Sl Int))) 16 (YX qd ql qm) (fun r1 g=>.tuple #[.slice g.1.1 r1.1.length g.1.2,.i r1.2]) (fun r1 g=>[.inr (Qm (r1.1=g.2.map Sl.l)),Ow g.1.1 g.1.2 22 1 (g.2.map Sl.c),.inr (Bag 3 1 ic g.2)]) (fun w hM=>ML A_tracks qp qd A_tubes qu ql qj A_codes qw qm w (j6.sat hM) di (ji.sat hM) w9 (fun s hs=>(x8 s hs).sat hM) zj (jj.sat hM) ya) {} (fun r1 hr1=>?_))))))
 rintro⟨⟨A,c⟩,o⟩
 refine Y3 (fun w hM=>hM.fact_at 0 rfl) (fun gk=>X2 [Ow A c 22 1 (o.map Sl.c),.inr (Bag 3 1 ic o)] (.cons _ (aB _)) (Y3 (fun w hM=>hM.short_at 0 rfl) (fun dy=>?_)))
 have ny:=JC gk
 refine Zc 9 [] [(8,.slice A r1.1.length c),(9,.i r1.2)] {} (Z1 (Zf (Zc 2 [] [(20,.b (r1.2 != 0))] {} (Zb rfl (TC.cond (r1.2 != 0) rfl Kr (fun h1=>?_) (fun h1=>?_))))))
 ·refine Zf (Zc 3 [] [(6,.slice none 0 0),(7,.i r1.2)] {} (Zb rfl (TC.ret (Zo ?_))))
  have e:QJ qd ql qm=([],r1.2):=by subst hr1;unfold QJ;exact Zm h1 (rfl)
  refine Yi [Ow none 0 3 1 (([]:List Int).map ic),Ow A c 22 1 (o.map Sl.c),.inr (Bag 3 1 ic o)] (fun _ hM=>hM.emptyrow none 3 1) ?_
  rw[e]
  exact ZO (.inl rfl) (none,0) [] (.tuple #[.slice none 0 0,.i r1.2]) {} rfl (fun _ hM=>hM.sub (sb 1))
 ·refine Yc (Zc 1 [] [(23,.slice A r1.1.length c)] {} (VI (Γ:=AN) 24 (Y5 r1.1 2147483648) (fun r2 g=>.tuple #[.slice g.1 r2.1.length g.2,.i r2.2.1,.i r2.2.2]) (fun r2 g=>[Ow g.1 g.2 3 1 (r2.1.map ic)]) (fun w hM=>Wq A c r1.1 o 2147483648 w (hM.rd_at 0 rfl) (BL gk (hM.le_at 0 rfl)) (hM.bag_at 1 rfl) gk) {} (fun r2 hr2=>?_)))
  rintro⟨A_2,c_2⟩
  refine Y3 (fun w hM=>hM.short_at 0 rfl) (fun ni=>Zc 9 [] [(9,.i r2.2.2),(10,.slice A_2 r2.1.length c_2)] {} (Zz (Zc 4 [] [(6,.slice A_2 r2.1.length c_2),(7,.i r2.2.2)] {} (Zb rfl (TC.ret ?_)))))
  have e:QJ qd ql qm=(r2.1,r2.2.2):=by subst hr1 hr2;unfold QJ;exact Ze h1 (rfl)
  rw[e]
  exact ZO (.inl rfl) (A_2,c_2) [] (.tuple #[.slice A_2 r2.1.length c_2,.i r2.2.2]) {} rfl (fun _ hM=>hM.sub (sb 1))
def Qk (ql:List (List Zd)):List Int→Nat→(List Bool)→((List Bool) ⊕ ((List Int)×Int))
 | [],_,seen=>.inl seen
 | x::xs,k,seen=>cond ((decide (x<(-1)))||(decide (x≥(ql.length:Int)))) (
   .inr ([],4)) (
   cond (decide (x≥0)) (
    cond ((seen[x.toNat]?.getD false)) (
     .inr ([],7)) (
     cond (decide (x≥0)) (
      Qk ql xs (k+1) (seen.set x.toNat true)) (
      Qk ql xs (k+1) seen))) (
    cond (decide (x≥0)) (
     Qk ql xs (k+1) (seen.set x.toNat true)) (
     Qk ql xs (k+1) seen)))
def QD (time:Int) (xr:List Bool):List (List Zd)→Nat→(List Int)→(List Int)
 | [],_,out=>out
 | x_2::xs,k_2,out=>let r2:=JV x_2 time
  cond (r2.2==0) (
   cond (!((xr[k_2]?.getD false))) (
    QD time xr xs (k_2+1) (out++([(k_2:Int)]))) (
    QD time xr xs (k_2+1) out)) (
   QD time xr xs (k_2+1) out)
def Xe (to:List Int) (ql:List (List Zd)) (qm:List Int) (time:Int):List Int×Int :=
 cond (decide ((to.length:Int)>32)) (
  ([],2)) (
  let r1:=XG ql qm
  cond (r1 != 0) (
   ([],r1)) (
   Sum.elim (fun xr =>
    YB (QD time xr ql 0 ([]:List Int)) (fun qk =>
     (qk,0))) (fun r=>r) (Qk ql to 0 (List.replicate ((ql.length:Int).toNat) false))))
set_option maxHeartbeats 4000000 in
theorem DV (A_to:Option Addr) (dj:Nat) (to:List Int) (A_tubes:Option Addr) (qu:Nat) (ql:List (List Zd)) (qj:List (Sl Zd)) (A_codes:Option Addr) (qw:Nat) (qm:List Int) (time:Int) (w:World) (nz:Rd w 1 A_to (to.map ic)) (_hc_to:to.length≤dj) (ji:Rd w 1 A_tubes (qj.map Sl.c)) (w9:ql.length≤qu) (x8:∀ s∈qj,s.rd w 6 Zd.c) (zj:ql=qj.map Sl.l) (jj:Rd w 1 A_codes (qm.map ic)) (ya:qm.length≤qw):Calls Tryz.prog 30 #[.slice A_to to.length dj,.slice A_tubes ql.length qu,.slice A_codes qm.length qw,.int .i64 time] w (JH (Γ:=(Option Addr×Nat)) (cx w) (fun g=>.tuple #[.slice g.1 ((Xe to ql qm time).1.length) g.2,.int .i64 ((Xe to ql qm time).2)]) (fun g=>[.inr (Own g.1 g.2 3 1 (((Xe to ql qm time).1).map ic))])):=by
 have s_to:=nz.short;rw[aD] at s_to
 have wh:=ji.short;rw[← Jt zj] at wh
 have wj:=jj.short;rw[aD] at wj
 refine Zp (vs:=[.slice A_to to.length dj,.slice A_tubes ql.length qu,.slice A_codes qm.length qw,.i time]) (w:=w) Tryz.func30 rfl Tryz.ntmps30 rfl (Zf (Zc 2 [] [(8,.slice none 0 0),(9,.i 0)] {} (Z1 (Zf (Zc 3 [] [(21,.b (decide ((to.length:Int)>32)))] {} (Zb rfl (TC.cond (decide ((to.length:Int)>32)) rfl Kr (fun h1=>?_) (fun h1=>?_))))))))
 ·refine Zf (Zc 2 [] [(8,.slice none 0 0),(9,.i 2)] {} (Zb rfl (TC.ret (Zo ?_))))
  have e:Xe to ql qm time=([],2):=by unfold Xe;exact Zm h1 (rfl)
  refine Yi [Ow none 0 3 1 (([]:List Int).map ic)] (fun _ hM=>hM.emptyrow none 3 1) ?_
  rw[e]
  exact ZO (.inl rfl) (none,0) [] (.tuple #[.slice none 0 0,.i 2]) {} rfl (fun _ hM=>hM.sub (sb 1))
 ·have vm:=(Zv h1)
  refine Yg (TC.seq (Zf (Zc 2 [] [(22,.slice A_tubes ql.length qu),(23,.slice A_codes qm.length qw)] {} (TL.c 24 (XG ql qm) (fun r1=>.i r1) (fun w hM=>Ht A_tubes qu ql qj A_codes qw qm w (ji.sat hM) w9 (fun s hs=>(x8 s hs).sat hM) zj (jj.sat hM) ya) {} (fun r1 hr1=>Zc 4 [] [(10,.i r1)] {} (Zz (Zc 2 [] [(26,.b (r1 != 0))] {} (Zb rfl (TC.cond (r1 != 0) rfl Kr (fun h2=>?_) (fun h2=>?_))))))))))
  ·refine Zf (Zc 3 [] [(8,.slice none 0 0),(9,.i r1)] {} (Zb rfl (TC.ret (Zo ?_))))
   have e:Xe to ql qm time=([],r1):=by subst hr1;unfold Xe;exact Ze h1 (Zm h2 (rfl))
   refine Yi [Ow none 0 3 1 (([]:List Int).map ic)] (fun _ hM=>hM.emptyrow none 3 1) ?_
   rw[e]
   exact ZO (.inl rfl) (none,0) [] (.tuple #[.slice none 0 0,.i r1]) {} rfl (fun _ hM=>hM.sub (sb 1))
  ·have k9:=(QA h2)
   refine Yc (Zc 2 [] [(29,.i (ql.length:Int))] {} (TL.on (Γ:=AN) (sV (Instr.makeSlice 137 (.i (ql.length:Int)) (.i (ql.length:Int)))) 30 (fun g=>.slice g.1 (List.replicate ((ql.length:Int).toNat) false).length g.2) (fun g=>Ow g.1 g.2 4 1 ((List.replicate ((ql.length:Int).toNat) false).map bc)) (KX (P:=Tryz.prog) (c:=bc) (t:=137) (e:=4) (sz:=1) (bytes:=1) false .i64 .i64 ((ql.length:Int).toNat) Kr Kr (by (try have kc_:=Zx hr1 ‹_›);exact sd) (by (try have kc_:=Zx hr1 ‹_›);exact sd)) {} ?_))
   rintro⟨A,c⟩
   refine Zc 4 [] [(11,.slice A ((List.replicate ((ql.length:Int).toNat) false).length) c)] {} (Z1 (Zf (Zc 3 [] [(31,.slice A_to to.length dj),(32,.i (to.length:Int)),(33,.i 0)] {} (Zb rfl ?_))))
   obtain⟨R4,hR⟩:∃ R,R=Qk ql to 0 (List.replicate ((ql.length:Int).toNat) false):=⟨_,rfl⟩
   refine TC.cut (S:=(List Bool)) (fun xr=>[(1,.slice A_tubes ql.length qu),(3,.i time),(11,.slice A xr.length c)]) (fun xr=>[Ow A c 4 1 (xr.map bc)]) (fun xr=>R4=.inl xr∧xr.length=((ql.length:Int).toNat)) ?_ ?_
   ·refine TC.block (Xp (X:=Nat×(List Bool)) (fun (k,seen)=>[(1,.slice A_tubes ql.length qu),(3,.i time),(11,.slice A seen.length c),(31,.slice A_to to.length dj),(32,.i (to.length:Int)),(33,.i (k:Int))]) (fun (k,seen)=>[Ow A c 4 1 (seen.map bc)]) (fun (k,seen)=>to.length-k) (fun (k,seen)=>k≤to.length∧R4=Qk ql (to.drop k) k seen∧seen.length=((ql.length:Int).toNat)) ?_ (0,(List.replicate ((ql.length:Int).toNat) false)) ⟨aP _,hR,sz⟩ Kr (sb 1))
    rintro⟨k,seen⟩ ⟨hk,hI,og⟩
    refine Zf (Zc 1 [] [(34,.b (decide ((k:Int)<(to.length:Int))))] {} (Z1 (TC.cond (decide ((k:Int)<(to.length:Int))) rfl Kr (fun h3=>?_) (fun h3=>?_))))
    ·have hlt:=ltN h3
     obtain⟨x,hx⟩:=elN hlt
     have hd:=drop_at hx
     refine Yg (TC.seq (TC.block (Zf (TL.v (sV (Instr.indexAt 22 (.slice A_to to.length dj) (.i (k:Int)))) 35 (.pointer (some (Ix A_to (k*1)))) (fun w hM=>Zr (nz.sat hM) (by simp) Kr (by (try have kc_:=Zx hr1 ‹_›);exact sd) (by (try have kc_:=Zx hr1 ‹_›);exact sd)) {} (TL.v (sV (Instr.loadAt 3 (.pointer (some (Ix A_to (k*1)))))) 36 (.i x) (fun w hM=>Zu (off:=0) (i:=k) (.i x) (nz.sat hM) (Z6 hx) Kr Kr) {} (Zc 3 [] [(13,.i x)] {} (Zb rfl (TC.block (Zf (Zc 3 [] [(40,.b (decide (x<(-1))))] {} (XM 40 (decide (x<(-1))) 8 [] [] (fun β=>[(45,.b (β||(decide (x≥(ql.length:Int)))))]) Kr {} {} (Zc 9 [] [(37,.b ((decide (x<(-1)))||(decide (x≥(ql.length:Int)))))] {} (Zb rfl (TC.cond ((decide (x<(-1)))||(decide (x≥(ql.length:Int)))) rfl Kr (fun h4=>?_) (fun h4=>?_)))))))))))))))
     ·refine Zf (Zc 2 [] [(8,.slice none 0 0),(9,.i 4)] {} (Zb rfl (TC.ret (ZL (ZL (Zo (Zo (ZL (Zo (Zo ?_))))))))))
      have e:Xe to ql qm time=([],4):=by subst hr1;unfold Xe;exact Ze h1 (Ze h2 (Xh (hR.symm.trans (hI.trans (by rw[hd];exact Zm h4 (rfl)))) rfl))
      refine Yi [Ow none 0 3 1 (([]:List Int).map ic),Ow A c 4 1 (seen.map bc)] (fun _ hM=>hM.emptyrow none 3 1) ?_
      rw[e]
      exact ZO (.inl rfl) (none,0) [] (.tuple #[.slice none 0 0,.i 4]) {} rfl (fun _ hM=>hM.sub (sb 1))
     ·have yq:=(Zv (Z2 h4))
      have ai:=(Zv (Ye h4))
      refine Zf (Zc 3 [] [(49,.b (decide (x≥0)))] {} (Yy 49 (decide (x≥0)) Kr (fun h5=>?_) (fun h5=>?_)))
      ·have uf:=(ZF h5)
       refine Zc 5 [] [(50,.slice A seen.length c),(51,.i x)] {} (TL.v (sV (Instr.indexAt 137 (.slice A seen.length c) (.i x))) 52 (.pointer (some (Ix A (x.toNat*1)))) (fun w hM=>Zr (hM.rd_at 0 rfl) (by simp) Kr (by (try have kc_:=Zx hr1 ‹_›);exact sd) (by (try have kc_:=Zx hr1 ‹_›);exact sd)) {} (TL.v (sV (Instr.loadAt 4 (.pointer (some (Ix A (x.toNat*1)))))) 53 (.b ((seen[x.toNat]?.getD false))) (fun w hM=>Zu (off:=0) (i:=x.toNat) (.b ((seen[x.toNat]?.getD false))) (hM.rd_at 0 rfl) (Z6 (getD_at _ _ false (by (try have kc_:=Zx hr1 ‹_›);exact sd))) Kr Kr) {} (Zc 9 [] [(46,.b ((seen[x.toNat]?.getD false)))] {} (Zb rfl (TC.cond ((seen[x.toNat]?.getD false)) rfl Kr (fun h6=>?_) (fun h6=>?_))))))
       ·refine Zf (Zc 2 [] [(8,.slice none 0 0),(9,.i 7)] {} (Zb rfl (TC.ret (ZL (ZL (Zo (Zo (ZL (Zo (Zo ?_))))))))))
        have e:Xe to ql qm time=([],7):=by subst hr1;unfold Xe;exact Ze h1 (Ze h2 (Xh (hR.symm.trans (hI.trans (by rw[hd];exact Ze h4 (Zm h5 (Zm h6 (rfl)))))) rfl))
        refine Yi [Ow none 0 3 1 (([]:List Int).map ic),Ow A c 4 1 (seen.map bc)] (fun _ hM=>hM.emptyrow none 3 1) ?_
        rw[e]
        exact ZO (.inl rfl) (none,0) [] (.tuple #[.slice none 0 0,.i 7]) {} rfl (fun _ hM=>hM.sub (sb 1))
       ·refine Zf (Zc 3 [] [(55,.b (decide (x≥0)))] {} (Zb rfl (TC.cond (decide (x≥0)) rfl Kr (fun h7=>?_) (fun h7=>?_))))
        ·have yr:=(ZF h7)
         exact TC.region (Zc 2 [] [(58,.slice A seen.length c),(59,.i x)] {} (TL.v (sV (Instr.indexAt 137 (.slice A seen.length c) (.i x))) 60 (.pointer (some (Ix A (x.toNat*1)))) (fun w hM=>Zr (hM.rd_at 0 rfl) (by simp) Kr (by (try have kc_:=Zx hr1 ‹_›);exact sd) (by (try have kc_:=Zx hr1 ‹_›);exact sd)) {} (KF (Γ:=Unit) (sU (Instr.storeAt 4 (.pointer (some ((Ix A (x.toNat*1)).add 0))) (.b true))) 0 (Ow A c 4 1 ((seen.set x.toNat true).map bc)) (Y2 (n:=1) (off:=0) (.b true) 0 ((seen.set x.toNat true).map bc) rfl (Z6 (getD_at _ _ false (by (try have kc_:=Zx hr1 ‹_›);exact sd))) Kr Kr Kr Kr (YJ Kr)) Kr (TL.rw 11 (.slice A seen.length c) (.slice A ((seen.set x.toNat true).length) c) Kr (by simp only[aL]) (Zw rfl (ZY (ZY (Z3 (TC.region (Zc 2 [] [(33,.i (w64 ((k:Int)+1)))] {} (Zw rfl (TE.rw 33 (.i (w64 ((k:Int)+1))) (.i ((k+1:Nat):Int)) Kr (ZD k (by (try have kc_:=Zx hr1 ‹_›);omega)) (Z4 (x:=(k,seen)) (k+1,(seen.set x.toNat true)) ⟨by omega,hI.trans (by subst hr1;rw[hd];exact Ze h4 (Zm h5 (Ze h6 (Zm h7 (rfl))))),(by (try have kc_:=Zx hr1 ‹_›);exact sl)⟩ (mN hlt) Kr (sb 1))))))))))))))
        ·have yr:=(Zv h7)
         exact TC.skip (ZY (ZY (Z3 (TC.region (Zc 2 [] [(33,.i (w64 ((k:Int)+1)))] {} (Zw rfl (TE.rw 33 (.i (w64 ((k:Int)+1))) (.i ((k+1:Nat):Int)) Kr (ZD k (by (try have kc_:=Zx hr1 ‹_›);omega)) (Z4 (x:=(k,seen)) (k+1,seen) ⟨by omega,hI.trans (by subst hr1;rw[hd];exact Ze h4 (Zm h5 (Ze h6 (Ze h7 (rfl))))),(by (try have kc_:=Zx hr1 ‹_›);exact sl)⟩ (mN hlt) Kr (sb 1)))))))))
      ·have uf:=(Zv h5)
       refine Zc 9 [] [(46,.b false)] {} (Zb rfl (J1 rfl Kr (Zf (Zc 3 [] [(55,.b (decide (x≥0)))] {} (Zb rfl (TC.cond (decide (x≥0)) rfl Kr (fun h8=>?_) (fun h8=>?_)))))))
       ·have fk:=(ZF h8)
        exact TC.region (Zc 2 [] [(58,.slice A seen.length c),(59,.i x)] {} (TL.v (sV (Instr.indexAt 137 (.slice A seen.length c) (.i x))) 60 (.pointer (some (Ix A (x.toNat*1)))) (fun w hM=>Zr (hM.rd_at 0 rfl) (by simp) Kr (by (try have kc_:=Zx hr1 ‹_›);exact sd) (by (try have kc_:=Zx hr1 ‹_›);exact sd)) {} (KF (Γ:=Unit) (sU (Instr.storeAt 4 (.pointer (some ((Ix A (x.toNat*1)).add 0))) (.b true))) 0 (Ow A c 4 1 ((seen.set x.toNat true).map bc)) (Y2 (n:=1) (off:=0) (.b true) 0 ((seen.set x.toNat true).map bc) rfl (Z6 (getD_at _ _ false (by (try have kc_:=Zx hr1 ‹_›);exact sd))) Kr Kr Kr Kr (YJ Kr)) Kr (TL.rw 11 (.slice A seen.length c) (.slice A ((seen.set x.toNat true).length) c) Kr (by simp only[aL]) (Zw rfl (ZY (ZY (Z3 (TC.region (Zc 2 [] [(33,.i (w64 ((k:Int)+1)))] {} (Zw rfl (TE.rw 33 (.i (w64 ((k:Int)+1))) (.i ((k+1:Nat):Int)) Kr (ZD k (by (try have kc_:=Zx hr1 ‹_›);omega)) (Z4 (x:=(k,seen)) (k+1,(seen.set x.toNat true)) ⟨by omega,hI.trans (by subst hr1;rw[hd];exact Ze h4 (Ze h5 (Zm h8 (rfl)))),(by (try have kc_:=Zx hr1 ‹_›);exact sl)⟩ (mN hlt) Kr (sb 1))))))))))))))
       ·have fk:=(Zv h8)
        exact TC.skip (ZY (ZY (Z3 (TC.region (Zc 2 [] [(33,.i (w64 ((k:Int)+1)))] {} (Zw rfl (TE.rw 33 (.i (w64 ((k:Int)+1))) (.i ((k+1:Nat):Int)) Kr (ZD k (by (try have kc_:=Zx hr1 ‹_›);omega)) (Z4 (x:=(k,seen)) (k+1,seen) ⟨by omega,hI.trans (by subst hr1;rw[hd];exact Ze h4 (Ze h5 (Ze h8 (rfl)))),(by (try have kc_:=Zx hr1 ‹_›);exact sl)⟩ (mN hlt) Kr (sb 1)))))))))
    ·have hd:=Qb h3
     refine TC.exit (ZT (ZT (Z0 ?_)))
     exact TE.cut seen (⟨hI.trans (by subst hr1;rw[hd];exact rfl),(by (try have kc_:=Zx hr1 ‹_›);exact sl)⟩) Kr (sb 1)
   ·rintro xr ⟨hJ,mn⟩
    refine YC (Zc 1 [] [(14,.slice none 0 0)] {} (Z1 (Zf (Zc 3 [] [(62,.slice A_tubes ql.length qu),(63,.i (ql.length:Int)),(64,.i 0)] {} (Zb rfl (Q0 [Ow none 0 3 1 (([]:List Int).map ic),Ow A c 4 1 (xr.map bc)] (fun _ hM=>hM.emptyrow none 3 1) ?_))))))
    obtain⟨R8,xo⟩:∃ R,R=QD time xr ql 0 ([]:List Int):=⟨_,rfl⟩
    refine TC.cut (S:=(List Int)×(Option Addr)×Nat) (fun (qk,A_out_2,qe)=>[(14,.slice A_out_2 qk.length qe)]) (fun (qk,A_out_2,qe)=>[Ow A_out_2 qe 3 1 (qk.map ic)]) (fun (qk,A_out_2,qe)=>R8=qk∧qk.length≤ql.length) ?_ ?_
    ·refine TC.block (Xp (X:=Nat×(List Int)×(Option Addr)×Nat) (fun (k_2,out,A_out,qh)=>[(3,.i time),(11,.slice A xr.length c),(14,.slice A_out out.length qh),(62,.slice A_tubes ql.length qu),(63,.i (ql.length:Int)),(64,.i (k_2:Int))]) (fun (k_2,out,A_out,qh)=>[Ow A_out qh 3 1 (out.map ic),Ow A c 4 1 (xr.map bc)]) (fun (k_2,out,A_out,qh)=>ql.length-k_2) (fun (k_2,out,A_out,qh)=>k_2≤ql.length∧R8=QD time xr (ql.drop k_2) k_2 out∧out.length≤k_2) ?_ (0,([]:List Int),none,0) ⟨aP _,xo,sz⟩ Kr (sb 3))
     rintro⟨k_2,out,A_out,qh⟩ ⟨y4,xg,kn⟩
     refine Zf (Zc 1 [] [(65,.b (decide ((k_2:Int)<(ql.length:Int))))] {} (Z1 (TC.cond (decide ((k_2:Int)<(ql.length:Int))) rfl Kr (fun h9=>?_) (fun h9=>?_))))
     ·have zk:=ltN h9
      obtain⟨x_2,jf⟩:=elN zk
      have zr:=drop_at jf
      refine Yg (TC.seq (TC.block (Zf (Zc 1 [] [(66,.i (k_2:Int))] {} (TL.v (sV (Instr.indexAt 67 (.slice A_tubes ql.length qu) (.i (k_2:Int)))) 67 (.pointer (some (Ix A_tubes (k_2*1)))) (fun w hM=>Zr (ji.sat hM) (Jt zj) Kr (by (try have kc_:=Zx hr1 ‹_›);exact sd) (by (try have kc_:=Zx hr1 ‹_›);exact sd)) {} ?_)))))
      have w5:=(JD (XS x8 k_2) (JW zj jf)).short;rw[aD] at w5
      refine TL.v (sV (Instr.loadAt 74 (.pointer (some (Ix A_tubes (k_2*1)))))) 68 (.slice ((qj[k_2]?.getD Sl.zero).A) x_2.length ((qj[k_2]?.getD Sl.zero).cap)) (fun w hM=>(by have h:=Zu (P:=Tryz.prog) (T:=74) (off:=0) (i:=k_2) (.slice (qj[k_2]?.getD Sl.zero).A (qj[k_2]?.getD Sl.zero).l.length (qj[k_2]?.getD Sl.zero).cap) (ji.sat hM) (Z6 (getD_at _ _ Sl.zero (U9 zj (aK.1 jf).1))) Kr Kr;rw[(JW zj jf)] at h;exact h)) {} ?_
      refine Zc 5 [] [(15,.i (k_2:Int)),(16,.slice ((qj[k_2]?.getD Sl.zero).A) x_2.length ((qj[k_2]?.getD Sl.zero).cap))] {} (Zz (Zc 2 [] [(70,.slice ((qj[k_2]?.getD Sl.zero).A) x_2.length ((qj[k_2]?.getD Sl.zero).cap)),(71,.i time)] {} (TL.c 72 (JV x_2 time) (fun r2=>.tuple #[Zd.v r2.1,.i r2.2]) (fun w hM=>GX ((qj[k_2]?.getD Sl.zero).A) ((qj[k_2]?.getD Sl.zero).cap) x_2 time w (JD ((XS x8 k_2).sat hM) (JW zj jf)) (Lh ((XS x8 k_2).sat hM) (JW zj jf))) {} (fun r2 hr2=>Zc 6 [] [(73,Zd.v r2.1),(74,.i r2.2)] {} (ZA 17 (fun b1=>.p0 b1) (fun b1=>Bk b1 (Zd.c Zd.zero) 71) (fun b1=>{}) (fun b1=>Yp 0 (Bk b1 (Zd.c r2.1) 71) (fun _=>{}) (Zc 9 [] [(18,.i r2.2)] {} (Zz (Zc 3 [] [(77,.b (r2.2==0))] {} (Yy 77 (r2.2==0) Kr (fun h10=>?_) (fun h10=>?_)))))))))))
      ·have uy:=(YT h10)
       refine Zc 5 [] [(78,.slice A xr.length c),(79,.i (k_2:Int))] {} (TL.v (sV (Instr.indexAt 137 (.slice A xr.length c) (.i (k_2:Int)))) 80 (.pointer (some (Ix A (k_2*1)))) (fun w hM=>Zr (hM.rd_at 2 rfl) (by simp) Kr (by (try have kc_:=Zx hr1 ‹_›);exact sd) (by (try have kc_:=Zx hr1 ‹_›);exact sd)) {} (TL.v (sV (Instr.loadAt 4 (.pointer (some (Ix A (k_2*1)))))) 81 (.b ((xr[k_2]?.getD false))) (fun w hM=>Zu (off:=0) (i:=k_2) (.b ((xr[k_2]?.getD false))) (hM.rd_at 2 rfl) (Z6 (getD_at _ _ false (by (try have kc_:=Zx hr1 ‹_›);exact sd))) Kr Kr) {} (Zc 9 [] [(83,.b (!((xr[k_2]?.getD false))))] {} (Zb rfl (TC.cond (!((xr[k_2]?.getD false))) rfl Kr (fun h11=>?_) (fun h11=>?_))))))
       ·refine TC.region (Zc 2 [] [(84,.slice A_out out.length qh),(85,.i (k_2:Int))] {} (ZA 86 (fun b2=>.slice (Pa b2) 1 1) (fun b2=>Bk b2 #[.i (k_2:Int)] 3) (fun b2=>{}) (fun b2=>TL.os (Γ:=AN) (sV (Builtin.append_ #[22,22] 22 #[.slice A_out out.length qh,.slice (Pa b2) 1 1])) 87 (fun g=>.slice g.1 (out++([(k_2:Int)])).length g.2) 2 (fun g=>Ow g.1 g.2 3 1 ((out++([(k_2:Int)])).map ic)) (QE (bytes:=8) 22 2 ([(k_2:Int)]) Kr rfl rfl Nq rfl (fun w hM=>(Rd.lit hM 0 _ rfl Kr Kr Kr)) rfl (by (try have kc_:=Zx hr1 ‹_›);exact sa)) {} ?_)))
        rintro⟨A_2,c_2⟩
        exact Zc 5 [] [(14,.slice A_2 ((out++([(k_2:Int)])).length) c_2)] {} (Zw rfl (ZY (Z3 (TC.region (Zc 2 [] [(64,.i (w64 ((k_2:Int)+1)))] {} (Zw rfl (TE.rw 64 (.i (w64 ((k_2:Int)+1))) (.i ((k_2+1:Nat):Int)) Kr (ZD k_2 (by (try have kc_:=Zx hr1 ‹_›);omega)) (Z4 (x:=(k_2,out,A_out,qh)) (k_2+1,(out++([(k_2:Int)])),A_2,c_2) ⟨by omega,xg.trans (by subst hr1 hr2;rw[zr];exact Zm h10 (Zm h11 (rfl))),(by (try have kc_:=Zx hr1 ‹_›);exact sl)⟩ (mN zk) Kr (sb 12)))))))))
       ·exact TC.skip (ZY (Z3 (TC.region (Zc 2 [] [(64,.i (w64 ((k_2:Int)+1)))] {} (Zw rfl (TE.rw 64 (.i (w64 ((k_2:Int)+1))) (.i ((k_2+1:Nat):Int)) Kr (ZD k_2 (by (try have kc_:=Zx hr1 ‹_›);omega)) (Z4 (x:=(k_2,out,A_out,qh)) (k_2+1,out,A_out,qh) ⟨by omega,xg.trans (by subst hr1 hr2;rw[zr];exact Zm h10 (Ze h11 (rfl))),(by (try have kc_:=Zx hr1 ‹_›);exact sl)⟩ (mN zk) Kr (sb 6))))))))
      ·have uy:=(Yl h10)
       exact Zc 9 [] [(83,.b false)] {} (Zb rfl (J1 rfl Kr (TC.skip (ZY (Z3 (TC.region (Zc 2 [] [(64,.i (w64 ((k_2:Int)+1)))] {} (Zw rfl (TE.rw 64 (.i (w64 ((k_2:Int)+1))) (.i ((k_2+1:Nat):Int)) Kr (ZD k_2 (by (try have kc_:=Zx hr1 ‹_›);omega)) (Z4 (x:=(k_2,out,A_out,qh)) (k_2+1,out,A_out,qh) ⟨by omega,xg.trans (by subst hr1 hr2;rw[zr];exact Ze h10 (rfl)),(by (try have kc_:=Zx hr1 ‹_›);exact sl)⟩ (mN zk) Kr (sb 6)))))))))))
     ·have zr:=Qb h9
      refine TC.exit (ZT (ZT (Z0 ?_)))
      exact TE.cut (out,A_out,qh) (⟨xg.trans (by subst hr1;rw[zr];exact rfl),(by (try have kc_:=Zx hr1 ‹_›);exact sl)⟩) Kr (sb 1)
    ·rintro⟨qk,A_out_2,qe⟩ ⟨jv,jw⟩
     refine YC (Zc 3 [] [(8,.slice A_out_2 qk.length qe),(9,.i 0)] {} (Zb rfl (TC.ret ?_)))
     have e:Xe to ql qm time=(qk,0):=by subst hr1;unfold Xe;exact Ze h1 (Ze h2 (Q3 (hR.symm.trans hJ) (Yr (xo.symm.trans jv) (rfl))))
     rw[e]
     exact ZO (.inl rfl) (A_out_2,qe) [] (.tuple #[.slice A_out_2 qk.length qe,.i 0]) {} rfl (fun _ hM=>hM.sub (sb 1))
end Go.Sky
end
section
namespace Go.Sky
open Go Go.Eng
theorem Ni {C:List Int} {t:Track} {T:List (List Zd)}:∀ (xs:List (List Zd)) (k:Nat) (row:List Int),T.drop k=xs→row.length=T.length →
  (Y4 C t xs k row).length=T.length∧∀ j,(j<k→gt (Y4 C t xs k row) j=gt row j)∧(k≤j→∀ tb,T[j]?=some tb→0≤gt (Y4 C t xs k row) j→(Qx t tb).2=true∧(t.Code=-1∨t.Code=C[j]?.getD 0))
 | [],k,row,hd,hl=>⟨hl,fun j=>⟨fun _=>rfl,fun hj tb ht _=>by
   have:=List.drop_eq_nil_iff.1 hd
   rw[cR (by omega)] at ht;cases ht⟩⟩
 | x::xs,k,row,hd,hl=>by
  obtain⟨d1,d2,d3⟩:=GP hd
  have key:∀ v:Int,(0≤v→(Qx t x).2=true∧(t.Code=-1∨t.Code=C[k]?.getD 0))→(Y4 C t xs (k+1) (row.set k v)).length=T.length∧∀ j,(j<k→gt (Y4 C t xs (k+1) (row.set k v)) j=gt row j)∧(k≤j→∀ tb,T[j]?=some tb→0≤gt (Y4 C t xs (k+1) (row.set k v)) j→(Qx t tb).2=true∧(t.Code=-1∨t.Code=C[j]?.getD 0)):=fun v hv=>by
   obtain⟨i1,i2⟩:=Ni (C:=C) (t:=t) xs (k+1) (row.set k v) d1 (by rw[aL];exact hl)
   refine⟨i1,fun j=>⟨fun hj=>?_,fun hj tb ht h0=>?_⟩⟩
   ·rw[(i2 j).1 (by omega)];unfold gt;rw[dO (by omega)]
   ·by_cases e:j=k
    ·subst e
     rw[(i2 j).1 (by omega)] at h0
     have e2:gt (row.set j v) j=v:=by unfold gt;rw[dE (by omega)];rfl
     rw[e2] at h0
     rw[d2] at ht;injection ht with ht;subst ht
     exact hv h0
    ·exact(i2 j).2 (by omega) tb ht h0
  unfold Y4
  simp only
  cases h1:(Qx t x).2
  ·rw[eF,cond_true];exact key _ (by omega)
  ·rw[cD,cond_false]
   cases h2:(t.Code != (-1))
   ·have h2':t.Code=-1:=by simpa using h2
    rw[cond_false,show (t.Code==(-1))=true by simpa using h2',cond_true]
    exact key _ fun _=>⟨h1,.inl h2'⟩
   ·rw[cond_true]
    cases h3:(t.Code != (C[k]?.getD 0))
    ·have h3':t.Code=C[k]?.getD 0:=by simpa using h3
     rw[cond_false,show (t.Code==(-1))=false by simpa using h2,cond_false]
     exact key _ fun _=>⟨h1,.inr h3'⟩
    ·rw[cond_true];exact key _ (by omega)
theorem Nj {T:List (List Zd)} {C:List Int}:∀ (xs:List Track) (k:Nat) (out c:List (List Int)),Xz T C xs k out=.inl c →
  ∃ rs,c=out++rs∧rs.length=xs.length∧(∀ t∈xs,Yt t=0)∧∀ (i:Nat) (row:List Int) (t:Track),rs[i]?=some row→xs[i]?=some t→row.length=T.length∧∀ (j:Nat) (tb:List Zd),T[j]?=some tb→0≤gt row j→(Qx t tb).2=true∧(t.Code=-1∨t.Code=C[j]?.getD 0)
 | [],k,out,c,h=>by
  unfold Xz at h
  injection h with h
  exact⟨[],by rw[bU];exact h.symm,rfl,(fun _ ht=>by cases ht),fun i _ _ hr=>by cases i <;> cases hr⟩
 | x::xs,k,out,c,h=>by
  unfold Xz at h
  simp only at h
  cases h1:(Yt x != 0)
  ·rw[h1,cond_false] at h
   unfold YB at h
   obtain⟨rs,e,l,ck,hr⟩:=Nj xs (k+1) _ c h
   obtain⟨q1,q2⟩:=Ni (C:=C) (t:=x) T 0 (List.replicate ((T.length:Int).toNat) (0:Int)) eE (by simp)
   refine⟨Y4 C x T 0 (List.replicate ((T.length:Int).toNat) (0:Int))::rs,by rw[e];simp,by simp[l],fun t ht=>?_,fun i row t hi ht=>?_⟩
   ·rcases bB.1 ht with rfl|ht
    ·simpa using h1
    ·exact ck t ht
   ·cases i with
    | zero =>
     injection hi with hi;injection ht with ht
     subst hi ht
     exact⟨q1,fun j tb htb h0=>(q2 j).2 (aP _) tb htb h0⟩
    | succ i=>exact hr i row t (by simpa using hi) (by simpa using ht)
  ·rw[h1,cond_true] at h;cases h
theorem DW {T:List (List Zd)} {C:List Int}:∀ (xs:List Track) (k:Nat) (out:List (List Int)) (y:List (List Int)×Int),Xz T C xs k out=.inr y→y.2≠0
 | [],_,_,_,h=>by unfold Xz at h;cases h
 | x::xs,k,out,y,h=>by
  unfold Xz at h
  simp only at h
  cases h1:(Yt x != 0)
  ·rw[h1,cond_false] at h
   unfold YB at h
   exact DW xs (k+1) _ y h
  ·rw[h1,cond_true] at h
   injection h with h;subst h
   simpa using h1
structure Ed (L:List Track) (T:List (List Zd)) (C:List Int) (c:List (List Int)):Prop where
 chk:XG T C=0
 len:c.length=L.length
 trk:∀ t∈L,Yt t=0
 l32:L.length≤32
 row:∀ (i:Nat) (row:List Int) (t:Track),c[i]?=some row→L[i]?=some t→row.length=T.length∧∀ (j:Nat) (tb:List Zd),T[j]?=some tb→0≤gt row j→(Qx t tb).2=true∧(t.Code=-1∨t.Code=C[j]?.getD 0)
theorem Pm {L:List Track} {T:List (List Zd)} {C:List Int} (h:(YX L T C).2=0):Ed L T C (YX L T C).1:=by
 unfold YX at h ⊢
 cases h0:decide ((L.length:Int)>32)
 ·rw[h0,cond_false] at h
  rw[cond_false]
  simp only at h ⊢
  cases h1:(XG T C != 0)
  ·rw[h1,cond_false] at h
   rw[cond_false]
   cases h2:Xz T C L 0 [] with
   | inl c =>
    obtain⟨rs,e,l,ck,hr⟩:=Nj L 0 [] c h2
    rw[bK] at e
    subst e
    have:=of_decide_eq_false h0
    exact⟨by simpa using h1,l,ck,by omega,hr⟩
   | inr y =>
    rw[h2] at h
    simp only[Sum.elim_inr] at h
    exact absurd h (DW L 0 [] y h2)
  ·rw[h1,cond_true] at h;exact absurd h (by simpa using h1)
 ·rw[h0,cond_true] at h;exact absurd h (by decide)
theorem UW.spec {qc:Int} {rows:List (List Int)} {taken:List Bool} {to:List Int} {t:Int} (h:UW qc rows taken to t):∀ (i:Nat) (x:Int),to[i]?=some x→x=-1∨∃ (k:Nat) (row:List Int),x=(k:Int)∧rows[i]?=some row∧k<row.length∧0≤gt row k:=by
 induction h with
 | nil taken=>intro i x h;cases i <;> cases h
 | skip _ ih =>
  intro i x h
  cases i with
  | zero=>injection h with h;exact .inl h.symm
  | succ i=>exact ih i x (by simpa using h)
 | @pick row rows taken to t k h1 h2 h3 _ ih =>
  intro i x h
  cases i with
  | zero=>injection h with h;exact .inr ⟨k,row,h.symm,rfl,h1,h3⟩
  | succ i=>exact ih i x (by simpa using h)
theorem Zai {L:List Track} {T:List (List Zd)} {C:List Int} (h:(QJ L T C).2=0):∃ c t,Ed L T C c∧UW 2147483648 c (List.replicate (c[0]?.getD []).length false) (QJ L T C).1 t:=by
 unfold QJ at h ⊢
 simp only at h ⊢
 cases h1:((YX L T C).2 != 0)
 ·rw[h1,cond_false] at h
  rw[cond_false]
  have hc:=RV (qb:=(YX L T C).1) (qc:=2147483648) h
  obtain⟨to,e,p⟩:=GQ hc
  refine⟨_,ZM (YX L T C).1 2147483648 0 (List.replicate ((YX L T C).1[0]?.getD []).length false),Pm (by simpa using h1),?_⟩
  rw[e]
  exact p
 ·rw[h1,cond_true] at h;exact absurd h (by simpa using h1)
theorem Pn {L:List Track} {T:List (List Zd)} {C:List Int} {r:List Int×Int} (hr:QJ L T C=r) (h:(r.2 != 0)=false):(∀ x∈r.1,x<(T.length:Int))∧C.length=T.length∧T.length≤24∧r.1.length=L.length:=by
 subst hr
 obtain⟨c,t,q,p⟩:=Zai (by simpa using h)
 have k:=TZ q.chk
 refine⟨fun x hx=>?_,k.2.1,k.1,p.len.trans q.len⟩
 obtain⟨i,hi⟩:=List.mem_iff_getElem?.1 hx
 rcases p.spec i x hi with rfl|⟨n,row,rfl,ug,hn,_⟩
 ·omega
 ·obtain⟨hi2,_⟩:=aK.1 ug
  have:=(q.row i row (L[i]'(by rw[← q.len];exact hi2)) ug (aM _)).1
  omega
end Go.Sky
end
section
namespace Go.Sky
open Go Go.Eng Go.Proofs
def Jb (t:Track):Bool :=
 let r1:=Yt (⟨t.ID,t.State,t.Time,t.At,t.Speed,t.Height,t.Rate,t.Radius,0,t.Hits,t.Misses⟩:Track)
 r1==0
theorem Wj (t:Track) (w:World):Calls Tryz.prog 126 #[Track.v t] w (Ret w (.bool (Jb t))):=by
 exact Zp (vs:=[Track.v t]) (w:=w) Tryz.func126 rfl Tryz.ntmps126 rfl (Zf (ZA 1 (fun b1=>.p0 b1) (fun b1=>Bk b1 (Track.c t) 40) (fun b1=>{}) (fun b1=>Zc 2 [] [(2,.b false)] {} (Zz (Zc 1 [] [(3,.pt b1 10)] {} (Yp 0 (Bk b1 (Track.c (⟨t.ID,t.State,t.Time,t.At,t.Speed,t.Height,t.Rate,t.Radius,0,t.Hits,t.Misses⟩:Track)) 40) (fun _=>{}) (Zz (Zc 1 [0] [(4,Track.v (⟨t.ID,t.State,t.Time,t.At,t.Speed,t.Height,t.Rate,t.Radius,0,t.Hits,t.Misses⟩:Track))] {} (TL.c 5 (Yt (⟨t.ID,t.State,t.Time,t.At,t.Speed,t.Height,t.Rate,t.Radius,0,t.Hits,t.Misses⟩:Track)) (fun r1=>.i r1) (fun w _=>K5 (⟨t.ID,t.State,t.Time,t.At,t.Speed,t.Height,t.Rate,t.Radius,0,t.Hits,t.Misses⟩:Track) w) {} (fun r1 hr1=>Zc 4 [] [(2,.b (r1==0))] {} (Zb rfl (TC.ret (TE.ret [] (.b (r1==0)) {} (by unfold Jb;refine eS (fun z=>(.b z:Value)) ?_;subst hr1;exact rfl))))))))))))))
def Kw (t:Track) (l:List Zd):Zd×Int :=
 let r1:=Jb t
 cond (!r1) (
  ((⟨⟨0,⟨0,0⟩,0⟩,0,0⟩:Zd),4)) (
  let r2:=JV l t.Time
  (r2.1,r2.2))
theorem DX (t:Track) (A_l:Option Addr) (c_l:Nat) (l:List Zd) (w:World) (h_l:Rd w 6 A_l (l.map Zd.c)) (km:l.length≤c_l):Calls Tryz.prog 65 #[Track.v t,.slice A_l l.length c_l] w (Ret w (.tuple #[Zd.v ((Kw t l).1),.int .i64 ((Kw t l).2)])):=by
 have s_l:=h_l.short;rw[aD] at s_l
 refine Zp (vs:=[Track.v t,.slice A_l l.length c_l]) (w:=w) Tryz.func65 rfl Tryz.ntmps65 rfl (Zf (ZA 2 (fun b1=>.p0 b1) (fun b1=>Bk b1 (Track.c t) 40) (fun b1=>{}) (fun b1=>ZA 4 (fun b2=>.p0 b2) (fun b2=>Bk b2 (Zd.c Zd.zero) 71) (fun b2=>{}) (fun b2=>Zc 3 [] [(5,.i 0)] {} (Z1 (Zf (Zc 1 [1] [(6,Track.v t)] {} (TL.c 7 (Jb t) (fun r1=>.b r1) (fun w _=>Wj t w) {} (fun r1 hr1=>Zc 3 [] [(8,.b (!r1))] {} (Zb rfl (TC.cond (!r1) rfl Kr (fun h1=>?_) (fun h1=>?_))))))))))))
 ·exact Zf (Zc 1 [] [(9,Zd.v Zd.zero)] {} (Yp 0 (Bk b2 (Zd.c Zd.zero) 71) (fun _=>{}) (Zc 3 [] [(5,.i 4)] {} (Zb rfl (TC.ret (Zo (TE.ret [0] (.tuple #[Zd.v (⟨⟨0,⟨0,0⟩,0⟩,0,0⟩:Zd),.i 4]) {} (by unfold Kw;refine eS (a:=((⟨⟨0,⟨0,0⟩,0⟩,0,0⟩:Zd),4)) (fun (z:Zd×Int)=>(.tuple #[Zd.v z.1,.i z.2]:Value)) ?_;subst hr1;exact Zm h1 (rfl)))))))))
 ·exact Yc (Zc 3 [1] [(10,.slice A_l l.length c_l),(12,.i t.Time)] {} (TL.c 13 (JV l t.Time) (fun r2=>.tuple #[Zd.v r2.1,.i r2.2]) (fun w hM=>GX A_l c_l l t.Time w (h_l.sat hM) km) {} (fun r2 hr2=>Zc 6 [] [(14,Zd.v r2.1),(15,.i r2.2)] {} (Yp 0 (Bk b2 (Zd.c r2.1) 71) (fun _=>{}) (Zc 8 [] [(5,.i r2.2)] {} (Zb rfl (TC.ret (TE.ret [0] (.tuple #[Zd.v r2.1,.i r2.2]) {} (by unfold Kw;refine eS (a:=(r2.1,r2.2)) (fun (z:Zd×Int)=>(.tuple #[Zd.v z.1,.i z.2]:Value)) ?_;subst hr1 hr2;exact Ze h1 (rfl))))))))))
def Jh (t:Track) (n:Zd):Int :=
 let r1:=ZX t.At n.Node.At (w64 (n.Radius+t.Radius))
 cond ((!r1)||(decide ((Vu (w64 (t.Height-n.Node.Height)) (w64 (n.Node.Height-t.Height)))>(w64 (n.Band+100))))) (
  2) (
  let r2:=ZX t.At n.Node.At (w64 (n.Radius-t.Radius))
  cond (r2&&(decide ((Vu (w64 (t.Height-n.Node.Height)) (w64 (n.Node.Height-t.Height)))≤(w64 (n.Band-100))))) (
   0) (
   1))
theorem Hu (t:Track) (n:Zd) (w:World):Calls Tryz.prog 66 #[Track.v t,Zd.v n] w (Ret w (.int .i64 (Jh t n))):=by
 refine Zp (vs:=[Track.v t,Zd.v n]) (w:=w) Tryz.func66 rfl Tryz.ntmps66 rfl (Zf (ZA 2 (fun b1=>.p0 b1) (fun b1=>Bk b1 (Track.c t) 40) (fun b1=>{}) (fun b1=>ZA 3 (fun b2=>.p0 b2) (fun b2=>Bk b2 (Zd.c n) 71) (fun b2=>{}) (fun b2=>Zc 3 [] [(4,.i 0)] {} (Zz (Zc 14 [1,0,0,1] [(5,.i (Vu (w64 (t.Height-n.Node.Height)) (w64 (n.Node.Height-t.Height))))] {} (Z1 (TC.block (Zf (Zc 10 [1,0,0,1] [(21,P.v t.At),(24,P.v n.Node.At),(29,.i (w64 (n.Radius+t.Radius)))] {} (TL.c 30 (ZX t.At n.Node.At (w64 (n.Radius+t.Radius))) (fun r1=>.b r1) (fun w _=>QR t.At n.Node.At (w64 (n.Radius+t.Radius)) w) {} (fun r1 hr1=>Zc 13 [] [(32,.b (!r1))] {} (XM 32 (!r1) 19 [] [0] (fun β=>[(38,.b (β||(decide ((Vu (w64 (t.Height-n.Node.Height)) (w64 (n.Node.Height-t.Height)))>(w64 (n.Band+100))))))]) Kr {} {} (Zc 20 [] [(19,.b ((!r1)||(decide ((Vu (w64 (t.Height-n.Node.Height)) (w64 (n.Node.Height-t.Height)))>(w64 (n.Band+100))))))] {} (Zb rfl (TC.cond ((!r1)||(decide ((Vu (w64 (t.Height-n.Node.Height)) (w64 (n.Node.Height-t.Height)))>(w64 (n.Band+100))))) rfl Kr (fun h1=>?_) (fun h1=>?_)))))))))))))))))
 ·refine Zf (Zc 1 [] [(4,.i 2)] {} (Zb rfl (TC.ret (ZL (Zo ?_)))))
  exact TE.ret [] (.i 2) {} (by unfold Jh;refine eS (fun z=>(.i z:Value)) ?_;subst hr1;exact Zm h1 (rfl))
 ·refine Zf (Zc 10 [1,0,0,1] [(41,P.v t.At),(44,P.v n.Node.At),(49,.i (w64 (n.Radius-t.Radius)))] {} (TL.c 50 (ZX t.At n.Node.At (w64 (n.Radius-t.Radius))) (fun r2=>.b r2) (fun w _=>QR t.At n.Node.At (w64 (n.Radius-t.Radius)) w) {} (fun r2 hr2=>Zc 12 [] [(51,.b r2)] {} (XM 51 r2 18 [0] [] (fun β=>[(57,.b (β&&(decide ((Vu (w64 (t.Height-n.Node.Height)) (w64 (n.Node.Height-t.Height)))≤(w64 (n.Band-100))))))]) Kr {} {} (Zc 19 [] [(39,.b (r2&&(decide ((Vu (w64 (t.Height-n.Node.Height)) (w64 (n.Node.Height-t.Height)))≤(w64 (n.Band-100))))))] {} (Zb rfl (TC.cond (r2&&(decide ((Vu (w64 (t.Height-n.Node.Height)) (w64 (n.Node.Height-t.Height)))≤(w64 (n.Band-100))))) rfl Kr (fun h2=>?_) (fun h2=>?_))))))))
  ·refine Zf (Zc 1 [] [(4,.i 0)] {} (Zb rfl (TC.ret (ZL (Zo ?_)))))
   exact TE.ret [] (.i 0) {} (by unfold Jh;refine eS (fun z=>(.i z:Value)) ?_;subst hr1 hr2;exact Ze h1 (Zm h2 (rfl)))
  ·exact TC.skip (ZY (YC (Zc 1 [] [(4,.i 1)] {} (Zb rfl (TC.ret (TE.ret [] (.i 1) {} (by unfold Jh;refine eS (fun z=>(.i z:Value)) ?_;subst hr1 hr2;exact Ze h1 (Ze h2 (rfl)))))))))
def Ql (t:Track) (l:List Zd):Int×Int :=
 let r1:=Kw t l
 cond (r1.2 != 0) (
  (0,r1.2)) (
  let r2:=Jh t r1.1
  (r2,0))
theorem Hv (t:Track) (A_l:Option Addr) (c_l:Nat) (l:List Zd) (w:World) (h_l:Rd w 6 A_l (l.map Zd.c)) (km:l.length≤c_l):Calls Tryz.prog 29 #[Track.v t,.slice A_l l.length c_l] w (Ret w (.tuple #[.int .i64 ((Ql t l).1),.int .i64 ((Ql t l).2)])):=by
 have s_l:=h_l.short;rw[aD] at s_l
 refine Zp (vs:=[Track.v t,.slice A_l l.length c_l]) (w:=w) Tryz.func29 rfl Tryz.ntmps29 rfl (Zf (ZA 2 (fun b1=>.p0 b1) (fun b1=>Bk b1 (Track.c t) 40) (fun b1=>{}) (fun b1=>Zc 3 [] [(4,.i 0),(5,.i 0)] {} (Zz (Zc 2 [0] [(9,Track.v t),(10,.slice A_l l.length c_l)] {} (TL.c 11 (Kw t l) (fun r1=>.tuple #[Zd.v r1.1,.i r1.2]) (fun w hM=>DX t A_l c_l l w (h_l.sat hM) km) {} (fun r1 hr1=>Zc 6 [] [(12,Zd.v r1.1),(13,.i r1.2)] {} (ZA 6 (fun b2=>.p0 b2) (fun b2=>Bk b2 (Zd.c Zd.zero) 71) (fun b2=>{}) (fun b2=>Yp 0 (Bk b2 (Zd.c r1.1) 71) (fun _=>{}) (Zc 9 [] [(7,.i r1.2)] {} (Z1 (Zf (Zc 2 [] [(15,.b (r1.2 != 0))] {} (Zb rfl (TC.cond (r1.2 != 0) rfl Kr (fun h1=>?_) (fun h1=>?_))))))))))))))))
 ·exact Zf (Zc 3 [] [(4,.i 0),(5,.i r1.2)] {} (Zb rfl (TC.ret (Zo (TE.ret [] (.tuple #[.i 0,.i r1.2]) {} (by unfold Ql;refine eS (a:=(0,r1.2)) (fun (z:Int×Int)=>(.tuple #[.i z.1,.i z.2]:Value)) ?_;subst hr1;exact Zm h1 (rfl)))))))
 ·exact Yc (Zc 2 [1,0] [(17,Track.v t),(18,Zd.v r1.1)] {} (TL.c 19 (Jh t r1.1) (fun r2=>.i r2) (fun w _=>Hu t r1.1 w) {} (fun r2 hr2=>Zc 5 [] [(4,.i r2),(5,.i 0)] {} (Zb rfl (TC.ret (TE.ret [] (.tuple #[.i r2,.i 0]) {} (by unfold Ql;refine eS (a:=(r2,0)) (fun (z:Int×Int)=>(.tuple #[.i z.1,.i z.2]:Value)) ?_;subst hr1 hr2;exact Ze h1 (rfl))))))))
end Go.Sky
end
section
namespace Go.Eng
section
variable {G:Type} {P:Program} {n:Nat} {w0:Ctx} {ops:Array Oper} {base:ZS} {vals:G→List Value} {writes:List Nat} {mem:List Bool→G→Mem}
theorem Px {Γ:Type} (set:Γ→G→G) (E:G→Mem) (E':Γ→G→Mem) (X:(Nat→Bool)→G→Mem) (D:List Nat) (s:G→Sem Next) (d:Option Tmp) (v:Γ→G→Value) {i:Nat}
  (fg:∀ S γ,S i=false→(∀ e:Nat,(Q2 ops.toList i).contains e=true→S e=true)→(∀ k:Nat,(Q2 ops.toList k).contains i=true→S k=false)→(mem (writes.map S) γ).Perm (E γ++X S γ))
  (um:∀ S γ g,(∀ k:Nat,(Q2 ops.toList k).contains i=true→S k=false)→(∀ j k:Nat,(Q2 ops.toList k).contains j=true→S k=true→S j=true)→(E' g γ++X S γ).Perm (mem (writes.map (upS S i)) (set g γ)))
  (hv:∀ γ M' w,Sat w0 (E γ++M') w→∃ g w',(s γ).run P w=.ok (.value (v g γ)) w'∧Sat w0 (E' g γ++M') w')
  (hs:∀ γ,semAt ops.toList (US ops.toList base (vals γ)) i=some (s γ,d)) (vi:∀ γ g,(vals (set g γ))[i]?=some (v g γ))
  (hD:PD ops.toList i D=true) (gu:∀ γ g,U7 D 0 (vals (set g γ))=U7 D 0 (vals γ))
  (h:Steps P w0 ops base vals writes mem (ops.toList.drop (i+1)) (i+1)):Steps P w0 ops base vals writes mem (ops.toList.drop i) i:=by
 refine JS (fun o ho S γ w hSi hd hc hMw=>?_) h
 obtain⟨o',h1,h2,h3,h4⟩:=Vw (hs γ)
 rw[ho] at h1
 simp only[aF] at h1
 subst h1
 have hd':∀ e:Nat,(Q2 ops.toList i).contains e=true→S e=true:=fun e he=>hd e (by unfold Q2 at he;rw[ho] at he;simpa using he)
 rw[h2]
 simp only
 unfold U1
 obtain⟨g,w',hr,hM'⟩:=hv γ _ w (hMw.perm (fg S γ hSi hd' (VC hSi hc)))
 rw[h3,hr]
 exact⟨set g γ,agree hD hSi hc (gu γ g),vi γ g,hM'.perm (um S γ g (VC hSi hc) (fun j k hjk hk=>by
  unfold Q2 at hjk
  split at hjk
  ·rename_i o2 ho2
   exact hc k o2 ho2 hk j (by simpa using hjk)
  ·simp at hjk))⟩
end
end Go.Eng
end
section
namespace Go.Sky
open Go Go.Eng Go.Proofs
def Xf (time:Int) (_x:Zq) (_x_2:Int):Zd :=
 let r1:=Y1 _x time
 (⟨⟨time,r1,_x.height⟩,_x_2,200⟩:Zd)
theorem Vr (time:Int) (dm:Addr) (_x:Zq) (gl:Addr) (_x_2:Int) (w:World) (aj:Rd w 6 (some dm) [Zq.c _x]) (ma:Rd w 1 (some gl) [ic _x_2]):Calls Tryz.prog 26 #[.int .i64 time,.pointer (some dm),.pointer (some gl)] w (Ret w (Zd.v (Xf time _x _x_2))):=by
 exact Zp (vs:=[.i time,.pointer (some dm),.pointer (some gl)]) (w:=w) Tryz.func26 rfl Tryz.ntmps26 rfl (Zf (ZA 4 (fun b1=>.p0 b1) (fun b1=>Bk b1 (Zd.c Zd.zero) 71) (fun b1=>{}) (fun b1=>Z1 (Ko 9 Kr Kr (YY 1 [] [(5,.i time)] {} (TQ.v (sV (Instr.loadAt 38 (.pointer (some dm)))) 6 (Zq.v _x) (fun w hM=>Z9 (n:=6) (off:=0) (Zq.v _x) (aj.sat hM) (XU _) Kr Kr Kr) rfl {} (YY 3 [] [(7,.i time)] {} (TQ.c 8 (Y1 _x time) (fun r1=>P.v r1) (fun w _=>KR _x time w) rfl {} (fun r1 hr1=>YY 5 [] [(9,.pointer (some (dm.add 4)))] {} (TQ.v (sV (Instr.loadAt 3 (.pointer (some (dm.add 4))))) 10 (.i _x.height) (fun w hM=>Zu (off:=4) (.i _x.height) (aj.sat hM) (XU _) Kr Kr) rfl {} (YY 7 [] [(11,Node.v (⟨time,r1,_x.height⟩:Node))] {} (TQ.v (sV (Instr.loadAt 3 (.pointer (some gl)))) 12 (.i _x_2) (fun w hM=>Zu (off:=0) (.i _x_2) (ma.sat hM) (XU _) Kr Kr) rfl {} (YY 9 [] [(13,Zd.v (⟨⟨time,r1,_x.height⟩,_x_2,200⟩:Zd))] {} (TQ.tail rfl (Yp 0 (Bk b1 (Zd.c (⟨⟨time,r1,_x.height⟩,_x_2,200⟩:Zd)) 71) (fun _=>{}) (Zb rfl (TC.ret (TE.ret [0] (Zd.v (⟨⟨time,r1,_x.height⟩,_x_2,200⟩:Zd)) {} (by unfold Xf;refine eS (fun z=>(Zd.v z:Value)) ?_;subst hr1;exact rfl)))))))))))))))))))
def XH (r4:Int):List Zq→Nat→(List (List Zd))→(List Int)→(List (List Zd)×List Int)
 | [],_,ql,qm=>(ql,qm)
 | x::xs,k,ql,qm=>let r5:=Xf 0 x r4
  let r6:=Xf 200 x r4
  XH r4 xs (k+1) (ql ++ [[r5,r6]]) (qm++([x.code]))
def XI:List Za→Nat→(List Track)→(List Track)
 | [],_,qd=>qd
 | x_2::xs,k_2,qd=>XI xs (k_2+1) (qd++([x_2.Track]))
def XJ (r2:Zi×Int×Bool) (zc:List (List Zd)) (zd:List Int) (qn:List Track):List Int→Nat→((Unit) ⊕ (Bool))
 | [],_=>.inl ()
 | x_3::xs,k_3=>cond (decide (x_3<0)) (
   .inr false) (
   cond ((zd[x_3.toNat]?.getD 0) != ((qn[k_3]?.getD Track.zero).Code)) (
    .inr false) (
    let r9:=JV (zc[x_3.toNat]?.getD []) r2.2.1
    let r10:=Ql (qn[k_3]?.getD Track.zero) (zc[x_3.toNat]?.getD [])
    cond ((r9.2 != 0)||(r10.2 != 0)) (
     .inr false) (
     cond (r10.1==2) (
      let r11:=K6 r9.1.Node.At ((qn[k_3]?.getD Track.zero).At)
      cond (decide (r11≤(w64 (((qn[k_3]?.getD Track.zero).Radius)*((qn[k_3]?.getD Track.zero).Radius))))) (
       .inr false) (
       XJ r2 zc zd qn xs (k_3+1))) (
      XJ r2 zc zd qn xs (k_3+1)))))
def Xl (l:List Int) (wk:Int):Bool :=
 let r1:=Xk l
 let r2:=UL r1 5
 let r3:=Qs
 cond ((!r3)||(!r2.2.2)) (
  false) (
  let r4:=Yq wk 0 3000
  YB (XH r4 r1 0 ([]:List (List Zd)) ([]:List Int)) (fun (zc,zd) =>
   let r7:=X3 r2.1
   YB (XI r7 0 ([]:List Track)) (fun qn =>
    let r8:=QJ qn zc zd
    cond (((r8.2 != 0)||((r8.1.length:Int) != (r1.length:Int)))||((qn.length:Int) != (r1.length:Int))) (
     false) (
     Sum.elim (fun _ =>
      let r12:=Xe r8.1 zc zd r2.2.1
      (r12.2==0)&&((r12.1.length:Int)==0)) (fun r=>r) (XJ r2 zc zd qn r8.1 0)))))
theorem Io {a b c:Bool} (h:((a||b)||c)=false):a=false:=by cases a;rfl;cases h
theorem CX {fs:List Zq} (h:Fls fs) {r:Zi×Int×Bool} (hr:UL fs 5=r):r.1.all.length≤3∧r.2.1=16∧r.1.last=16:=by
 obtain⟨t,gs,e,p,q,q2⟩:=OZ h (n:=5) (by decide)
 rw[show (5:Int)=((5:Nat):Int) from rfl,e] at hr
 subst hr
 exact⟨by rw[q.all.len,p.length_eq];exact h.len,rfl,q2⟩
set_option maxHeartbeats 4000000 in
theorem GF (A_l:Option Addr) (c_l:Nat) (l:List Int) (wk:Int) (w:World) (h_l:Rd w 1 A_l (l.map ic)) (km:l.length≤c_l) (hT:G8 w):Calls Tryz.prog 6 #[.slice A_l l.length c_l,.int .i64 wk] w (Ret w (.bool (Xl l wk))):=by
 have s_l:=h_l.short;rw[aD] at s_l
 refine Zp (vs:=[.slice A_l l.length c_l,.i wk]) (w:=w) Tryz.func6 rfl Tryz.ntmps6 rfl (Zf (ZA 3 (fun b1=>.p0 b1) (fun b1=>Bk b1 #[.i wk] 3) (fun b1=>{}) (fun b1=>Zc 2 [] [(4,.b false)] {} (Zz (Zc 1 [] [(26,.slice A_l l.length c_l)] {} (VI (Γ:=AN) 27 (Xk l) (fun r1 g=>.slice g.1 r1.length g.2) (fun r1 g=>[Ow g.1 g.2 38 6 (r1.map Zq.c)]) (fun w hM=>G3 A_l c_l l w (h_l.sat hM) km) {} (fun r1 hr1=>?_)))))))
 have kf_:Fls r1:=(by rw[← hr1];exact Ea l);have kfl_:=kf_.len
 rintro⟨A,c⟩
 refine Y3 (fun w hM=>hM.short_at 0 rfl) (fun dy=>Zc 3 [] [(5,.slice A r1.length c)] {} (Zz (Zc 1 [] [(29,.slice A r1.length c)] {} (VI (Γ:=Nat×AN) 30 (UL r1 5) (fun r2 g=>.tuple #[.p0 g.1,.i r2.2.1,.b r2.2.2]) (fun r2 g=>[Bk g.1 (Zi.k r2.1 g.2.1 g.2.2) 118,Ow g.2.1 g.2.2 122 23 (r2.1.all.map followed.c)]) (fun w hM=>Ae A c r1 5 w (Sat.start w) (hM.rd_at 0 rfl) (hM.le_at 0 rfl) (hT.sat hM) ⟨bL kf_.len (by decide),by decide,by decide⟩ (Pi kf_)) {} (fun r2 hr2=>?_)))))
 have kr_:=CX kf_ hr2
 rintro⟨xw,A_2,c_2⟩
 refine Y3 (fun w hM=>hM.short_at 1 rfl) (fun sv=>Zc 9 [] [(6,.p0 xw),(7,.i r2.2.1),(8,.b r2.2.2)] {} (Z1 (Zf (TL.c 34 (Qs) (fun r3=>.b r3) (fun w _=>W5 w) {} (fun r3 hr3=>Zc 3 [] [(36,.b (!r3))] {} (XM 36 (!r3) 6 [] [] (fun β=>[(39,.b (β||(!r2.2.2)))]) Kr {} {} (Zb rfl (TC.cond ((!r3)||(!r2.2.2)) rfl Kr (fun h1=>?_) (fun h1=>?_)))))))))
 ·exact Zf (Zc 1 [] [(4,.b false)] {} (Zb rfl (TC.ret (Zo (TE.ret [] (.b false) {} (by unfold Xl;refine eS (fun z=>(.b z:Value)) ?_;subst hr1 hr2 hr3;exact Zm h1 (rfl)))))))
 ·refine Yc (Zc 1 [3] [(40,.i wk)] {} (TL.c 41 (Yq wk 0 3000) (fun r4=>.i r4) (fun w _=>Jj wk 0 3000 w (by first|omega|first|decide|omega|(simp only[Xi];omega)|(simp <;> omega))) {} (fun r4 hr4=>Yp 3 (Bk b1 #[.i r4] 3) (fun _=>{}) (Zz (Zc 1 [] [(9,.slice none 0 0)] {} (Zz (Zc 1 [] [(10,.slice none 0 0)] {} (Z1 (Zf (Zc 3 [] [(42,.slice A r1.length c),(43,.i (r1.length:Int)),(44,.i 0)] {} (Zb rfl (Q0 [Ow none 0 74 1 (([]:List (Sl Zd)).map Sl.c),.inr (Bag 71 6 Zd.c ([]:List (Sl Zd))),Bk xw (Zi.k r2.1 A_2 c_2) 118,Ow A_2 c_2 122 23 (r2.1.all.map followed.c),Ow A c 38 6 (r1.map Zq.c),Bk b1 #[.i r4] 3] (fun _ hM=>(hM.bag_nil 71 6 Zd.c).emptyrow none 74 1) (Q0 [Ow none 0 3 1 (([]:List Int).map ic),Ow none 0 74 1 (([]:List (Sl Zd)).map Sl.c),.inr (Bag 71 6 Zd.c ([]:List (Sl Zd))),Bk xw (Zi.k r2.1 A_2 c_2) 118,Ow A_2 c_2 122 23 (r2.1.all.map followed.c),Ow A c 38 6 (r1.map Zq.c),Bk b1 #[.i r4] 3] (fun _ hM=>hM.emptyrow none 3 1) ?_)))))))))))))
  obtain⟨R3,hR⟩:∃ R,R=XH r4 r1 0 ([]:List (List Zd)) ([]:List Int):=⟨_,rfl⟩
  refine TC.cut (S:=(List (List Zd))×(List Int)×(Option Addr)×Nat×(List (Sl Zd))×(Option Addr)×Nat) (fun (zc,zd,A_tubes_2,zp,q9,A_codes_2,z6)=>[(5,.slice A r1.length c),(6,.p0 xw),(7,.i r2.2.1),(9,.slice A_tubes_2 zc.length zp),(10,.slice A_codes_2 zd.length z6)]) (fun (zc,zd,A_tubes_2,zp,q9,A_codes_2,z6)=>[Ow A_codes_2 z6 3 1 (zd.map ic),Ow A_tubes_2 zp 74 1 (q9.map Sl.c),.inr (Bag 71 6 Zd.c q9),Bk xw (Zi.k r2.1 A_2 c_2) 118,Ow A_2 c_2 122 23 (r2.1.all.map followed.c),Ow A c 38 6 (r1.map Zq.c)]) (fun (zc,zd,A_tubes_2,zp,q9,A_codes_2,z6)=>R3=(zc,zd)∧zc.length≤r1.length∧(zc=q9.map Sl.l)∧zd.length≤r1.length) ?_ ?_
  ·refine TC.block (Xp (X:=Nat×(List (List Zd))×(List Int)×(Option Addr)×Nat×(List (Sl Zd))×(Option Addr)×Nat) (fun (k,ql,qm,A_tubes,qu,qj,A_codes,qw)=>[(3,.p0 b1),(5,.slice A r1.length c),(6,.p0 xw),(7,.i r2.2.1),(9,.slice A_tubes ql.length qu),(10,.slice A_codes qm.length qw),(42,.slice A r1.length c),(43,.i (r1.length:Int)),(44,.i (k:Int))]) (fun (k,ql,qm,A_tubes,qu,qj,A_codes,qw)=>[Ow A_codes qw 3 1 (qm.map ic),Ow A_tubes qu 74 1 (qj.map Sl.c),.inr (Bag 71 6 Zd.c qj),Bk xw (Zi.k r2.1 A_2 c_2) 118,Ow A_2 c_2 122 23 (r2.1.all.map followed.c),Ow A c 38 6 (r1.map Zq.c),Bk b1 #[.i r4] 3]) (fun (k,ql,qm,A_tubes,qu,qj,A_codes,qw)=>r1.length-k) (fun (k,ql,qm,A_tubes,qu,qj,A_codes,qw)=>k≤r1.length∧R3=XH r4 (r1.drop k) k ql qm∧ql.length≤k∧(ql=qj.map Sl.l)∧qm.length≤k) ?_ (0,([]:List (List Zd)),([]:List Int),none,0,([]:List (Sl Zd)),none,0) ⟨aP _,hR,sz,rfl,sz⟩ Kr (sb 127))
   rintro⟨k,ql,qm,A_tubes,qu,qj,A_codes,qw⟩ ⟨hk,hI,ak,v8,ao⟩
   refine Zf (Zc 1 [] [(45,.b (decide ((k:Int)<(r1.length:Int))))] {} (Z1 (TC.cond (decide ((k:Int)<(r1.length:Int))) rfl Kr (fun h2=>?_) (fun h2=>?_))))
   ·have hlt:=ltN h2
    obtain⟨x,hx⟩:=elN hlt
    have hd:=drop_at hx
    refine Yg (TC.seq (TC.block (Zf (TL.v (sV (Instr.indexAt 23 (.slice A r1.length c) (.i (k:Int)))) 46 (.pointer (some (Ix A (k*6)))) (fun w hM=>Zr (hM.rd_at 5 rfl) (by simp) Kr sd sd) {} (TL.v (sV (Instr.loadAt 38 (.pointer (some (Ix A (k*6)))))) 47 (Zq.v x) (fun w hM=>Z9 (n:=6) (off:=0) (i:=k) (Zq.v x) (hM.rd_at 5 rfl) (Z6 hx) Kr Kr Kr) {} (ZA 12 (fun b2=>.p0 b2) (fun b2=>Bk b2 (Zq.c Zq.zero) 38) (fun b2=>{}) (fun b2=>Yp 0 (Bk b2 (Zq.c x) 38) (fun _=>{}) (Zz (Zc 2 [] [(13,.func (.func 26) #[] #[.p0 b2,.p0 b1])] {} (Zb rfl ?_))))))))))
    obtain⟨r5,hr5⟩:∃ r,Xf 0 x r4=r:=⟨_,rfl⟩
    obtain⟨r6,hr6⟩:∃ r,Xf 200 x r4=r:=⟨_,rfl⟩
    let Mr12_:Mem:=[Bk b2 (Zq.c x) 38,.inr (Bag 71 6 Zd.c qj),Bk xw (Zi.k r2.1 A_2 c_2) 118,Ow A_2 c_2 122 23 (r2.1.all.map followed.c),Ow A c 38 6 (r1.map Zq.c),Bk b1 #[.i r4] 3]
    refine Jm (G:=Nat×Nat×AN×Nat×AN) (base:=[(3,.p0 b1),(5,.slice A r1.length c),(6,.p0 xw),(7,.i r2.2.1),(9,.slice A_tubes ql.length qu),(10,.slice A_codes qm.length qw),(12,.p0 b2),(13,.func (.func 26) #[] #[.p0 b2,.p0 b1]),(42,.slice A r1.length c),(43,.i (r1.length:Int)),(44,.i (k:Int))]) (vals:=fun γ=>[.slice A_tubes ql.length qu,.func (.func 26) #[] #[.p0 b2,.p0 b1],Zd.v r5,.func (.func 26) #[] #[.p0 b2,.p0 b1],Zd.v r6,.slice (Pa γ.1) 2 2,.slice (Pa γ.2.1) 1 1,.slice (γ.2.2.1.1) ((qj++([(⟨(Pa γ.1),2,[r5,r6]⟩:Sl Zd)])).length) (γ.2.2.1.2),.slice A_codes qm.length qw,.pt b2 5,.i x.code,.slice (Pa γ.2.2.2.1) 1 1,.slice (γ.2.2.2.2.1) ((qm++([x.code])).length) (γ.2.2.2.2.2),.slice (γ.2.2.1.1) ((qj++([(⟨(Pa γ.1),2,[r5,r6]⟩:Sl Zd)])).length) (γ.2.2.1.2),.slice (γ.2.2.2.2.1) ((qm++([x.code])).length) (γ.2.2.2.2.2)]) (writes:=[5,6,7,11,12]) (mem:=fun bs γ=>match bs with | [x5_,x6_,x7_,fm,y5]=>(bif x5_ then [Bk γ.1 #[.i r5.Node.Time,.i r5.Node.At.X,.i r5.Node.At.Y,.i r5.Node.Height,.i r5.Radius,.i r5.Band,.i r6.Node.Time,.i r6.Node.At.X,.i r6.Node.At.Y,.i r6.Node.Height,.i r6.Radius,.i r6.Band] 71] else [])++((bif x6_ then [Bk γ.2.1 #[.slice (Pa γ.1) 2 2] 74] else [])++((bif x7_ then [Ow (γ.2.2.1.1) (γ.2.2.1.2) 74 1 ((qj++([(⟨(Pa γ.1),2,[r5,r6]⟩:Sl Zd)])).map Sl.c)] else [Ow A_tubes qu 74 1 (qj.map Sl.c)])++((bif fm then [Bk γ.2.2.2.1 #[.i x.code] 3] else [])++((bif y5 then [Ow (γ.2.2.2.2.1) (γ.2.2.2.2.2) 3 1 ((qm++([x.code])).map ic)] else [Ow A_codes qw 3 1 (qm.map ic)])++(Mr12_)))))|_=>[]) (0,0,(none,0),0,(none,0)) (fun γ=>[(3,.p0 b1),(5,.slice A r1.length c),(6,.p0 xw),(7,.i r2.2.1),(9,.slice (γ.2.2.1.1) ((qj++([(⟨(Pa γ.1),2,[r5,r6]⟩:Sl Zd)])).length) (γ.2.2.1.2)),(10,.slice (γ.2.2.2.2.1) ((qm++([x.code])).length) (γ.2.2.2.2.2)),(42,.slice A r1.length c),(43,.i (r1.length:Int)),(44,.i (k:Int))]) Kr Kr Kr Kr Kr (fun γ=>Kr) (fun _ hM=>hM.perm (px [2,1,0,3,4,5,6,7])) (fun γ=>Kr) ?_ ?_
    ·skip
     exact Steps.run (i:=0) 2 [0,0] Mr12_ Kr Kr (fun S (γ:Nat×Nat×AN×Nat×AN) w hM=>by rw[mS5 rfl rfl rfl rfl rfl] at hM;exact hM.sub (Zl (Zl (Zl (Zl (Zl (aB _))))))) Kr (fun (γ:Nat×Nat×AN×Nat×AN)=>{}) (Steps.call (i:=2) 26 (fun (γ:Nat×Nat×AN×Nat×AN)=>#[.i 0,.p0 b2,.p0 b1]) (some 51) (fun (γ:Nat×Nat×AN×Nat×AN)=>Zd.v r5) (fun (γ:Nat×Nat×AN×Nat×AN)=>[Bk b2 (Zq.c x) 38,.inr (Bag 71 6 Zd.c qj),Bk xw (Zi.k r2.1 A_2 c_2) 118,Ow A_2 c_2 122 23 (r2.1.all.map followed.c),Ow A c 38 6 (r1.map Zq.c),Bk b1 #[.i r4] 3]) Kr (fun S (γ:Nat×Nat×AN×Nat×AN) w _ hM=>by rw[mS5 rfl rfl rfl rfl rfl] at hM;exact hM.sub (Zl (Zl (Zl (Zl (Zl (aB _))))))) (fun (γ:Nat×Nat×AN×Nat×AN) w hM=>by have h:=Vr 0 ⟨b2,0,none⟩ x ⟨b1,0,none⟩ r4 w (Rd.lit hM 0 _ rfl Kr Kr Kr) (Rd.lit hM 5 _ rfl Kr Kr Kr);rw[hr5] at h;exact h) (fun (γ:Nat×Nat×AN×Nat×AN)=>Kr) (fun (γ:Nat×Nat×AN×Nat×AN)=>Kr) (Steps.run (i:=3) 4 [0] Mr12_ Kr Kr (fun S (γ:Nat×Nat×AN×Nat×AN) w hM=>by rw[mS5 rfl rfl rfl rfl rfl] at hM;exact hM.sub (Zl (Zl (Zl (Zl (Zl (aB _))))))) Kr (fun (γ:Nat×Nat×AN×Nat×AN)=>{}) (Steps.call (i:=4) 26 (fun (γ:Nat×Nat×AN×Nat×AN)=>#[.i 200,.p0 b2,.p0 b1]) (some 53) (fun (γ:Nat×Nat×AN×Nat×AN)=>Zd.v r6) (fun (γ:Nat×Nat×AN×Nat×AN)=>[Bk b2 (Zq.c x) 38,.inr (Bag 71 6 Zd.c qj),Bk xw (Zi.k r2.1 A_2 c_2) 118,Ow A_2 c_2 122 23 (r2.1.all.map followed.c),Ow A c 38 6 (r1.map Zq.c),Bk b1 #[.i r4] 3]) Kr (fun S (γ:Nat×Nat×AN×Nat×AN) w _ hM=>by rw[mS5 rfl rfl rfl rfl rfl] at hM;exact hM.sub (Zl (Zl (Zl (Zl (Zl (aB _))))))) (fun (γ:Nat×Nat×AN×Nat×AN) w hM=>by have h:=Vr 200 ⟨b2,0,none⟩ x ⟨b1,0,none⟩ r4 w (Rd.lit hM 0 _ rfl Kr Kr Kr) (Rd.lit hM 5 _ rfl Kr Kr Kr);rw[hr6] at h;exact h) (fun (γ:Nat×Nat×AN×Nat×AN)=>Kr) (fun (γ:Nat×Nat×AN×Nat×AN)=>Kr) (Px (i:=5) (Γ:=Nat) (fun g (γ:Nat×Nat×AN×Nat×AN)=>(g,γ.2.1,γ.2.2.1,γ.2.2.2.1,γ.2.2.2.2)) (fun _=>[]) (fun b (γ:Nat×Nat×AN×Nat×AN)=>[Bk b #[.i r5.Node.Time,.i r5.Node.At.X,.i r5.Node.At.Y,.i r5.Node.Height,.i r5.Radius,.i r5.Band,.i r6.Node.Time,.i r6.Node.At.X,.i r6.Node.At.Y,.i r6.Node.Height,.i r6.Radius,.i r6.Band] 71]) (fun S (γ:Nat×Nat×AN×Nat×AN)=>(bif S 6 then [Bk γ.2.1 #[.slice (Pa γ.1) 2 2] 74] else [])++((bif S 7 then [Ow (γ.2.2.1.1) (γ.2.2.1.2) 74 1 ((qj++([(⟨(Pa γ.1),2,[r5,r6]⟩:Sl Zd)])).map Sl.c)] else [Ow A_tubes qu 74 1 (qj.map Sl.c)])++((bif S 11 then [Bk γ.2.2.2.1 #[.i x.code] 3] else [])++((bif S 12 then [Ow (γ.2.2.2.2.1) (γ.2.2.2.2.2) 3 1 ((qm++([x.code])).map ic)] else [Ow A_codes qw 3 1 (qm.map ic)])++(Mr12_))))) [5,6,7,12,13,14] (fun (γ:Nat×Nat×AN×Nat×AN)=>sV (Instr.buildSlice 74 2 #[(0,Zd.v r5),(1,Zd.v r6)])) (some 54) (fun b (γ:Nat×Nat×AN×Nat×AN)=>.slice (Pa b) 2 2) (fun S (γ:Nat×Nat×AN×Nat×AN) hj hd hl=>by rw[mS5 hj rfl rfl rfl rfl];exact aC _) (fun S (γ:Nat×Nat×AN×Nat×AN) g hl hu=>by rw[mS5 (S:=upS S 5) (a0:=5) (a1:=6) (a2:=7) (a3:=11) (a4:=12) rfl (hl 6 Kr) (show S 7=false from (lat (hu 6 7 Kr) (hl 6 Kr))) rfl rfl,show S 6=false from (hl 6 Kr),show S 7=false from (show S 7=false from (lat (hu 6 7 Kr) (hl 6 Kr)))];exact(aC _).symm) (fun (γ:Nat×Nat×AN×Nat×AN) M' w hM=>Q4 (v:=fun b=>.slice (Pa b) 2 2) (fun b M=>Kr) M' w hM) (fun (γ:Nat×Nat×AN×Nat×AN)=>Kr) (fun (γ:Nat×Nat×AN×Nat×AN) g=>Kr) Kr (fun (γ:Nat×Nat×AN×Nat×AN) g=>Kr) (Steps.op (i:=6) (Γ:=Nat) (fun g (γ:Nat×Nat×AN×Nat×AN)=>(γ.1,g,γ.2.2.1,γ.2.2.2.1,γ.2.2.2.2)) (fun _=>[]) (fun b (γ:Nat×Nat×AN×Nat×AN)=>[Bk b #[.slice (Pa γ.1) 2 2] 74]) (fun S (γ:Nat×Nat×AN×Nat×AN)=>(bif S 5 then [Bk γ.1 #[.i r5.Node.Time,.i r5.Node.At.X,.i r5.Node.At.Y,.i r5.Node.Height,.i r5.Radius,.i r5.Band,.i r6.Node.Time,.i r6.Node.At.X,.i r6.Node.At.Y,.i r6.Node.Height,.i r6.Radius,.i r6.Band] 71] else [])++((bif S 7 then [Ow (γ.2.2.1.1) (γ.2.2.1.2) 74 1 ((qj++([(⟨(Pa γ.1),2,[r5,r6]⟩:Sl Zd)])).map Sl.c)] else [Ow A_tubes qu 74 1 (qj.map Sl.c)])++((bif S 11 then [Bk γ.2.2.2.1 #[.i x.code] 3] else [])++((bif S 12 then [Ow (γ.2.2.2.2.1) (γ.2.2.2.2.2) 3 1 ((qm++([x.code])).map ic)] else [Ow A_codes qw 3 1 (qm.map ic)])++(Mr12_))))) [6,7,12,13,14] (fun (γ:Nat×Nat×AN×Nat×AN)=>sV (Instr.buildSlice 67 1 #[(0,.slice (Pa γ.1) 2 2)])) (some 55) (fun b (γ:Nat×Nat×AN×Nat×AN)=>.slice (Pa b) 1 1) (fun S (γ:Nat×Nat×AN×Nat×AN) hj hd hl=>by rw[mS5 rfl hj rfl rfl rfl];exact(aA _ (aC _)).trans (ZC _ _ _)) (fun S (γ:Nat×Nat×AN×Nat×AN) g _=>((aA _ (aC _)).trans (ZC _ _ _)).symm) (fun (γ:Nat×Nat×AN×Nat×AN) M' w hM=>Q4 (v:=fun b=>.slice (Pa b) 1 1) (fun b M=>Kr) M' w hM) (fun (γ:Nat×Nat×AN×Nat×AN)=>Kr) (fun (γ:Nat×Nat×AN×Nat×AN) g=>Kr) Kr (fun (γ:Nat×Nat×AN×Nat×AN) g=>Kr) (Vi (i:=7) (Γ:=AN) (fun g (γ:Nat×Nat×AN×Nat×AN)=>(γ.1,γ.2.1,g,γ.2.2.2.1,γ.2.2.2.2)) (fun (γ:Nat×Nat×AN×Nat×AN)=>[Ow A_tubes qu 74 1 (qj.map Sl.c),Bk γ.2.1 #[.slice (Pa γ.1) 2 2] 74]) (fun g (γ:Nat×Nat×AN×Nat×AN)=>[Ow (g.1) (g.2) 74 1 ((qj++([(⟨(Pa γ.1),2,[r5,r6]⟩:Sl Zd)])).map Sl.c),Bk γ.2.1 #[.slice (Pa γ.1) 2 2] 74]) (fun S (γ:Nat×Nat×AN×Nat×AN)=>(bif S 5 then [Bk γ.1 #[.i r5.Node.Time,.i r5.Node.At.X,.i r5.Node.At.Y,.i r5.Node.Height,.i r5.Radius,.i r5.Band,.i r6.Node.Time,.i r6.Node.At.X,.i r6.Node.At.Y,.i r6.Node.Height,.i r6.Radius,.i r6.Band] 71] else [])++((bif S 11 then [Bk γ.2.2.2.1 #[.i x.code] 3] else [])++((bif S 12 then [Ow (γ.2.2.2.2.1) (γ.2.2.2.2.2) 3 1 ((qm++([x.code])).map ic)] else [Ow A_codes qw 3 1 (qm.map ic)])++(Mr12_)))) [7,12,13,14] (fun (γ:Nat×Nat×AN×Nat×AN)=>sV (Builtin.append_ #[67,67] 67 #[.slice A_tubes ql.length qu,.slice (Pa γ.2.1) 1 1])) (some 56) (fun g (γ:Nat×Nat×AN×Nat×AN)=>.slice (g.1) ((qj++([(⟨(Pa γ.1),2,[r5,r6]⟩:Sl Zd)])).length) (g.2)) (fun S (γ:Nat×Nat×AN×Nat×AN) hj hd hl=>by change List.Perm (((bif S 5 then [Bk γ.1 #[.i r5.Node.Time,.i r5.Node.At.X,.i r5.Node.At.Y,.i r5.Node.Height,.i r5.Radius,.i r5.Band,.i r6.Node.Time,.i r6.Node.At.X,.i r6.Node.At.Y,.i r6.Node.Height,.i r6.Radius,.i r6.Band] 71] else [])++((bif S 6 then [Bk γ.2.1 #[.slice (Pa γ.1) 2 2] 74] else [])++((bif S 7 then [Ow (γ.2.2.1.1) (γ.2.2.1.2) 74 1 ((qj++([(⟨(Pa γ.1),2,[r5,r6]⟩:Sl Zd)])).map Sl.c)] else [Ow A_tubes qu 74 1 (qj.map Sl.c)])++((bif S 11 then [Bk γ.2.2.2.1 #[.i x.code] 3] else [])++((bif S 12 then [Ow (γ.2.2.2.2.1) (γ.2.2.2.2.2) 3 1 ((qm++([x.code])).map ic)] else [Ow A_codes qw 3 1 (qm.map ic)])++(Mr12_)))))):Mem) _;rw[hj,hd 6 Kr];exact((aA _ ((aA _ (aC _)).trans (ZC _ _ _))).trans (ZC _ _ _)).trans (aA _ (((aA _ (aC _)).trans (ZC _ _ _)).trans (aA _ (aC _))))) (fun S (γ:Nat×Nat×AN×Nat×AN) g _ hd hl=>by change List.Perm ([Ow (g.1) (g.2) 74 1 ((qj++([(⟨(Pa γ.1),2,[r5,r6]⟩:Sl Zd)])).map Sl.c)]++([Bk γ.2.1 #[.slice (Pa γ.1) 2 2] 74]++((bif S 5 then [Bk γ.1 #[.i r5.Node.Time,.i r5.Node.At.X,.i r5.Node.At.Y,.i r5.Node.Height,.i r5.Radius,.i r5.Band,.i r6.Node.Time,.i r6.Node.At.X,.i r6.Node.At.Y,.i r6.Node.Height,.i r6.Radius,.i r6.Band] 71] else [])++((bif S 11 then [Bk γ.2.2.2.1 #[.i x.code] 3] else [])++((bif S 12 then [Ow (γ.2.2.2.2.1) (γ.2.2.2.2.2) 3 1 ((qm++([x.code])).map ic)] else [Ow A_codes qw 3 1 (qm.map ic)])++(Mr12_)))))) (((bif S 5 then [Bk γ.1 #[.i r5.Node.Time,.i r5.Node.At.X,.i r5.Node.At.Y,.i r5.Node.Height,.i r5.Radius,.i r5.Band,.i r6.Node.Time,.i r6.Node.At.X,.i r6.Node.At.Y,.i r6.Node.Height,.i r6.Radius,.i r6.Band] 71] else [])++((bif S 6 then [Bk γ.2.1 #[.slice (Pa γ.1) 2 2] 74] else [])++((bif true then [Ow (g.1) (g.2) 74 1 ((qj++([(⟨(Pa γ.1),2,[r5,r6]⟩:Sl Zd)])).map Sl.c)] else [Ow A_tubes qu 74 1 (qj.map Sl.c)])++((bif S 11 then [Bk γ.2.2.2.1 #[.i x.code] 3] else [])++((bif S 12 then [Ow (γ.2.2.2.2.1) (γ.2.2.2.2.2) 3 1 ((qm++([x.code])).map ic)] else [Ow A_codes qw 3 1 (qm.map ic)])++(Mr12_)))))):Mem);rw[hd 6 Kr];exact(((aA _ ((aA _ (aC _)).trans (ZC _ _ _))).trans (ZC _ _ _)).trans (aA _ (((aA _ (aC _)).trans (ZC _ _ _)).trans (aA _ (aC _))))).symm) (fun (γ:Nat×Nat×AN×Nat×AN) M' w hM=>(by rw[JC v8];exact QE (bytes:=24) 67 0 ([(⟨(Pa γ.1),2,[r5,r6]⟩:Sl Zd)]) Kr rfl rfl Sl.one rfl (fun w hM=>(Rd.lit hM 1 _ rfl Kr Kr Kr)) rfl (by have hz_:=JC v8;rw[← hz_];exact sa) w hM)) (fun (γ:Nat×Nat×AN×Nat×AN)=>Kr) (fun (γ:Nat×Nat×AN×Nat×AN) g=>Kr) Kr (fun (γ:Nat×Nat×AN×Nat×AN) g=>Kr) (Steps.run (i:=8) 11 [0,0,0] Mr12_ Kr Kr (fun S (γ:Nat×Nat×AN×Nat×AN) w hM=>by rw[mS5 rfl rfl rfl rfl rfl] at hM;exact hM.sub (Zl (Zl (Zl (Zl (Zl (aB _))))))) Kr (fun (γ:Nat×Nat×AN×Nat×AN)=>{}) (Steps.op (i:=11) (Γ:=Nat) (fun g (γ:Nat×Nat×AN×Nat×AN)=>(γ.1,γ.2.1,γ.2.2.1,g,γ.2.2.2.2)) (fun _=>[]) (fun b (γ:Nat×Nat×AN×Nat×AN)=>[Bk b #[.i x.code] 3]) (fun S (γ:Nat×Nat×AN×Nat×AN)=>(bif S 5 then [Bk γ.1 #[.i r5.Node.Time,.i r5.Node.At.X,.i r5.Node.At.Y,.i r5.Node.Height,.i r5.Radius,.i r5.Band,.i r6.Node.Time,.i r6.Node.At.X,.i r6.Node.At.Y,.i r6.Node.Height,.i r6.Radius,.i r6.Band] 71] else [])++((bif S 6 then [Bk γ.2.1 #[.slice (Pa γ.1) 2 2] 74] else [])++((bif S 7 then [Ow (γ.2.2.1.1) (γ.2.2.1.2) 74 1 ((qj++([(⟨(Pa γ.1),2,[r5,r6]⟩:Sl Zd)])).map Sl.c)] else [Ow A_tubes qu 74 1 (qj.map Sl.c)])++((bif S 12 then [Ow (γ.2.2.2.2.1) (γ.2.2.2.2.2) 3 1 ((qm++([x.code])).map ic)] else [Ow A_codes qw 3 1 (qm.map ic)])++(Mr12_))))) [11,12,13,14] (fun (γ:Nat×Nat×AN×Nat×AN)=>sV (Instr.buildSlice 22 1 #[(0,.i x.code)])) (some 60) (fun b (γ:Nat×Nat×AN×Nat×AN)=>.slice (Pa b) 1 1) (fun S (γ:Nat×Nat×AN×Nat×AN) hj hd hl=>by rw[mS5 rfl rfl rfl hj rfl];exact(aA _ ((aA _ ((aA _ (aC _)).trans (ZC _ _ _))).trans (ZC _ _ _))).trans (ZC _ _ _)) (fun S (γ:Nat×Nat×AN×Nat×AN) g _=>((aA _ ((aA _ ((aA _ (aC _)).trans (ZC _ _ _))).trans (ZC _ _ _))).trans (ZC _ _ _)).symm) (fun (γ:Nat×Nat×AN×Nat×AN) M' w hM=>Q4 (v:=fun b=>.slice (Pa b) 1 1) (fun b M=>Kr) M' w hM) (fun (γ:Nat×Nat×AN×Nat×AN)=>Kr) (fun (γ:Nat×Nat×AN×Nat×AN) g=>Kr) Kr (fun (γ:Nat×Nat×AN×Nat×AN) g=>Kr) (Vi (i:=12) (Γ:=AN) (fun g (γ:Nat×Nat×AN×Nat×AN)=>(γ.1,γ.2.1,γ.2.2.1,γ.2.2.2.1,g)) (fun (γ:Nat×Nat×AN×Nat×AN)=>[Ow A_codes qw 3 1 (qm.map ic),Bk γ.2.2.2.1 #[.i x.code] 3]) (fun g (γ:Nat×Nat×AN×Nat×AN)=>[Ow (g.1) (g.2) 3 1 ((qm++([x.code])).map ic),Bk γ.2.2.2.1 #[.i x.code] 3]) (fun S (γ:Nat×Nat×AN×Nat×AN)=>(bif S 5 then [Bk γ.1 #[.i r5.Node.Time,.i r5.Node.At.X,.i r5.Node.At.Y,.i r5.Node.Height,.i r5.Radius,.i r5.Band,.i r6.Node.Time,.i r6.Node.At.X,.i r6.Node.At.Y,.i r6.Node.Height,.i r6.Radius,.i r6.Band] 71] else [])++((bif S 6 then [Bk γ.2.1 #[.slice (Pa γ.1) 2 2] 74] else [])++((bif S 7 then [Ow (γ.2.2.1.1) (γ.2.2.1.2) 74 1 ((qj++([(⟨(Pa γ.1),2,[r5,r6]⟩:Sl Zd)])).map Sl.c)] else [Ow A_tubes qu 74 1 (qj.map Sl.c)])++(Mr12_)))) [12,13,14] (fun (γ:Nat×Nat×AN×Nat×AN)=>sV (Builtin.append_ #[22,22] 22 #[.slice A_codes qm.length qw,.slice (Pa γ.2.2.2.1) 1 1])) (some 61) (fun g (γ:Nat×Nat×AN×Nat×AN)=>.slice (g.1) ((qm++([x.code])).length) (g.2)) (fun S (γ:Nat×Nat×AN×Nat×AN) hj hd hl=>by change List.Perm (((bif S 5 then [Bk γ.1 #[.i r5.Node.Time,.i r5.Node.At.X,.i r5.Node.At.Y,.i r5.Node.Height,.i r5.Radius,.i r5.Band,.i r6.Node.Time,.i r6.Node.At.X,.i r6.Node.At.Y,.i r6.Node.Height,.i r6.Radius,.i r6.Band] 71] else [])++((bif S 6 then [Bk γ.2.1 #[.slice (Pa γ.1) 2 2] 74] else [])++((bif S 7 then [Ow (γ.2.2.1.1) (γ.2.2.1.2) 74 1 ((qj++([(⟨(Pa γ.1),2,[r5,r6]⟩:Sl Zd)])).map Sl.c)] else [Ow A_tubes qu 74 1 (qj.map Sl.c)])++((bif S 11 then [Bk γ.2.2.2.1 #[.i x.code] 3] else [])++((bif S 12 then [Ow (γ.2.2.2.2.1) (γ.2.2.2.2.2) 3 1 ((qm++([x.code])).map ic)] else [Ow A_codes qw 3 1 (qm.map ic)])++(Mr12_)))))):Mem) _;rw[hj,hd 11 Kr];exact((aA _ ((aA _ ((aA _ ((aA _ (aC _)).trans (ZC _ _ _))).trans (ZC _ _ _))).trans (ZC _ _ _))).trans (ZC _ _ _)).trans (aA _ (((aA _ ((aA _ ((aA _ (aC _)).trans (ZC _ _ _))).trans (ZC _ _ _))).trans (ZC _ _ _)).trans (aA _ (aC _))))) (fun S (γ:Nat×Nat×AN×Nat×AN) g _ hd hl=>by change List.Perm ([Ow (g.1) (g.2) 3 1 ((qm++([x.code])).map ic)]++([Bk γ.2.2.2.1 #[.i x.code] 3]++((bif S 5 then [Bk γ.1 #[.i r5.Node.Time,.i r5.Node.At.X,.i r5.Node.At.Y,.i r5.Node.Height,.i r5.Radius,.i r5.Band,.i r6.Node.Time,.i r6.Node.At.X,.i r6.Node.At.Y,.i r6.Node.Height,.i r6.Radius,.i r6.Band] 71] else [])++((bif S 6 then [Bk γ.2.1 #[.slice (Pa γ.1) 2 2] 74] else [])++((bif S 7 then [Ow (γ.2.2.1.1) (γ.2.2.1.2) 74 1 ((qj++([(⟨(Pa γ.1),2,[r5,r6]⟩:Sl Zd)])).map Sl.c)] else [Ow A_tubes qu 74 1 (qj.map Sl.c)])++(Mr12_)))))) (((bif S 5 then [Bk γ.1 #[.i r5.Node.Time,.i r5.Node.At.X,.i r5.Node.At.Y,.i r5.Node.Height,.i r5.Radius,.i r5.Band,.i r6.Node.Time,.i r6.Node.At.X,.i r6.Node.At.Y,.i r6.Node.Height,.i r6.Radius,.i r6.Band] 71] else [])++((bif S 6 then [Bk γ.2.1 #[.slice (Pa γ.1) 2 2] 74] else [])++((bif S 7 then [Ow (γ.2.2.1.1) (γ.2.2.1.2) 74 1 ((qj++([(⟨(Pa γ.1),2,[r5,r6]⟩:Sl Zd)])).map Sl.c)] else [Ow A_tubes qu 74 1 (qj.map Sl.c)])++((bif S 11 then [Bk γ.2.2.2.1 #[.i x.code] 3] else [])++((bif true then [Ow (g.1) (g.2) 3 1 ((qm++([x.code])).map ic)] else [Ow A_codes qw 3 1 (qm.map ic)])++(Mr12_)))))):Mem);rw[hd 11 Kr];exact(((aA _ ((aA _ ((aA _ ((aA _ (aC _)).trans (ZC _ _ _))).trans (ZC _ _ _))).trans (ZC _ _ _))).trans (ZC _ _ _)).trans (aA _ (((aA _ ((aA _ ((aA _ (aC _)).trans (ZC _ _ _))).trans (ZC _ _ _))).trans (ZC _ _ _)).trans (aA _ (aC _))))).symm) (fun (γ:Nat×Nat×AN×Nat×AN) M' w hM=>QE (bytes:=8) 22 0 ([x.code]) Kr rfl rfl Nq rfl (fun w hM=>(Rd.lit hM 1 _ rfl Kr Kr Kr)) rfl sa w hM) (fun (γ:Nat×Nat×AN×Nat×AN)=>Kr) (fun (γ:Nat×Nat×AN×Nat×AN) g=>Kr) Kr (fun (γ:Nat×Nat×AN×Nat×AN) g=>Kr) (Steps.run (i:=13) 15 [0,0] Mr12_ Kr Kr (fun S (γ:Nat×Nat×AN×Nat×AN) w hM=>by rw[mS5 rfl rfl rfl rfl rfl] at hM;exact hM.sub (Zl (Zl (Zl (Zl (Zl (aB _))))))) Kr (fun (γ:Nat×Nat×AN×Nat×AN)=>{}) (X6 Kr)))))))))))
    ·rintro⟨b3,b4,⟨A_3,c_3⟩,b5,⟨A_4,c_4⟩⟩
     exact Yi [Bk b3 #[.i r5.Node.Time,.i r5.Node.At.X,.i r5.Node.At.Y,.i r5.Node.Height,.i r5.Radius,.i r5.Band,.i r6.Node.Time,.i r6.Node.At.X,.i r6.Node.At.Y,.i r6.Node.Height,.i r6.Radius,.i r6.Band] 71,Bk b4 #[.slice (Pa b3) 2 2] 74,Ow A_3 c_3 74 1 ((qj++([(⟨(Pa b3),2,[r5,r6]⟩:Sl Zd)])).map Sl.c),Bk b5 #[.i x.code] 3,Ow A_4 c_4 3 1 ((qm++([x.code])).map ic),Bk b2 (Zq.c x) 38,.inr (Bag 71 6 Zd.c qj),Bk xw (Zi.k r2.1 A_2 c_2) 118,Ow A_2 c_2 122 23 (r2.1.all.map followed.c),Ow A c 38 6 (r1.map Zq.c),Bk b1 #[.i r4] 3] (fun _ hM=>hM) (Yi [Ow (Pa b3) 2 71 6 (([r5,r6]:List Zd).map Zd.c),Bk b4 #[.slice (Pa b3) 2 2] 74,Ow A_3 c_3 74 1 ((qj++([(⟨(Pa b3),2,[r5,r6]⟩:Sl Zd)])).map Sl.c),Bk b5 #[.i x.code] 3,Ow A_4 c_4 3 1 ((qm++([x.code])).map ic),Bk b2 (Zq.c x) 38,.inr (Bag 71 6 Zd.c qj),Bk xw (Zi.k r2.1 A_2 c_2) 118,Ow A_2 c_2 122 23 (r2.1.all.map followed.c),Ow A c 38 6 (r1.map Zq.c),Bk b1 #[.i r4] 3] (fun _ hM=>by exact hM.litrow 0 (([r5,r6]:List Zd).map Zd.c) rfl Kr Kr Kr Kr) (Yi [.inr (Bag 71 6 Zd.c (qj++([(⟨(Pa b3),2,[r5,r6]⟩:Sl Zd)]))),Bk b4 #[.slice (Pa b3) 2 2] 74,Ow A_3 c_3 74 1 ((qj++([(⟨(Pa b3),2,[r5,r6]⟩:Sl Zd)])).map Sl.c),Bk b5 #[.i x.code] 3,Ow A_4 c_4 3 1 ((qm++([x.code])).map ic),Bk b2 (Zq.c x) 38,Bk xw (Zi.k r2.1 A_2 c_2) 118,Ow A_2 c_2 122 23 (r2.1.all.map followed.c),Ow A c 38 6 (r1.map Zq.c),Bk b1 #[.i r4] 3] (fun _ hM=>Sat.bag_add (hM.perm (List.Perm.cons _ (((List.Perm.cons _ ((List.Perm.cons _ ((List.Perm.cons _ ((List.Perm.cons _ ((List.Perm.cons _ (aC _)).trans (List.Perm.swap _ _ _))).trans (List.Perm.swap _ _ _))).trans (List.Perm.swap _ _ _))).trans (List.Perm.swap _ _ _))).trans (List.Perm.swap _ _ _)).trans (List.Perm.cons _ (aC _)))))) (Yi [Ow A_3 c_3 74 1 ((qj++([(⟨(Pa b3),2,[r5,r6]⟩:Sl Zd)])).map Sl.c),.inr (Bag 71 6 Zd.c (qj++([(⟨(Pa b3),2,[r5,r6]⟩:Sl Zd)]))),Bk b4 #[.slice (Pa b3) 2 2] 74,Bk b5 #[.i x.code] 3,Ow A_4 c_4 3 1 ((qm++([x.code])).map ic),Bk b2 (Zq.c x) 38,Bk xw (Zi.k r2.1 A_2 c_2) 118,Ow A_2 c_2 122 23 (r2.1.all.map followed.c),Ow A c 38 6 (r1.map Zq.c),Bk b1 #[.i r4] 3] (fun _ hM=>hM.perm (px [2,0,1,3,4,5,6,7,8,9])) (TE.rw 9 (.slice A_3 ((qj++([(⟨(Pa b3),2,[r5,r6]⟩:Sl Zd)])).length) c_3) (.slice A_3 ((ql ++ [[r5,r6]]).length) c_3) Kr (by rw[← JC (Gy (s:=(⟨(Pa b3),2,[r5,r6]⟩:Sl Zd)) v8)]) (ZY (Z3 (TC.region (Zc 2 [] [(44,.i (w64 ((k:Int)+1)))] {} (Zw rfl (Yi [Ow A_4 c_4 3 1 ((qm++([x.code])).map ic),Ow A_3 c_3 74 1 ((qj++([(⟨(Pa b3),2,[r5,r6]⟩:Sl Zd)])).map Sl.c),.inr (Bag 71 6 Zd.c (qj++([(⟨(Pa b3),2,[r5,r6]⟩:Sl Zd)]))),Bk xw (Zi.k r2.1 A_2 c_2) 118,Ow A_2 c_2 122 23 (r2.1.all.map followed.c),Ow A c 38 6 (r1.map Zq.c),Bk b1 #[.i r4] 3,Bk b4 #[.slice (Pa b3) 2 2] 74,Bk b5 #[.i x.code] 3,Bk b2 (Zq.c x) 38] (fun _ hM=>hM.perm (px [4,0,1,6,7,8,9,2,3,5])) (TE.rw 44 (.i (w64 ((k:Int)+1))) (.i ((k+1:Nat):Int)) Kr (ZD k (by omega)) (Z4 (x:=(k,ql,qm,A_tubes,qu,qj,A_codes,qw)) (k+1,(ql ++ [[r5,r6]]),(qm++([x.code])),A_3,c_3,(qj++([(⟨(Pa b3),2,[r5,r6]⟩:Sl Zd)])),A_4,c_4) ⟨by omega,hI.trans (by subst hr1 hr2 hr3 hr4 hr5 hr6;rw[hd];exact rfl),sl,(Gy (s:=(⟨(Pa b3),2,[r5,r6]⟩:Sl Zd)) v8),sl⟩ (mN hlt) Kr (sb 127)))))))))))))
   ·have hd:=Qb h2
    refine TC.exit (ZT (ZT (Z0 ?_)))
    exact TE.cut (ql,qm,A_tubes,qu,qj,A_codes,qw) (⟨hI.trans (by subst hr1 hr2 hr3 hr4;rw[hd];exact rfl),sl,v8,sl⟩) Kr (sb 63)
  ·rintro⟨zc,zd,A_tubes_2,zp,q9,A_codes_2,z6⟩ ⟨hJ,mc,zo,me⟩
   refine YC (Zc 1 [] [(14,.slice none 0 0)] {} (Z1 (Zf (Zc 1 [] [(63,.p0 xw)] {} (VI (Γ:=AN) 64 (X3 r2.1) (fun r7 g=>.slice g.1 r7.length g.2) (fun r7 g=>[Ow g.1 g.2 44 20 (r7.map Za.c)]) (fun w hM=>U3 ⟨xw,0,none⟩ r2.1 A_2 c_2 w (Rd.lit hM 3 _ rfl Kr Kr Kr) (hM.rd_at 4 rfl) (hM.le_at 4 rfl) sg) {} (fun r7 hr7=>?_))))))
   have kt7_:r7.length≤3:=by rw[← hr7,FN,aD];exact kr_.1
   rintro⟨A_5,c_5⟩
   refine Y3 (fun w hM=>hM.short_at 0 rfl) (fun s_r7_0=>Zc 4 [] [(65,.i (r7.length:Int)),(66,.i 0)] {} (Zb rfl (Q0 [Ow none 0 40 13 (([]:List Track).map Track.c),Ow A_5 c_5 44 20 (r7.map Za.c),Ow A_codes_2 z6 3 1 (zd.map ic),Ow A_tubes_2 zp 74 1 (q9.map Sl.c),.inr (Bag 71 6 Zd.c q9),Bk xw (Zi.k r2.1 A_2 c_2) 118,Ow A_2 c_2 122 23 (r2.1.all.map followed.c),Ow A c 38 6 (r1.map Zq.c)] (fun _ hM=>hM.emptyrow none 40 13) ?_)))
   obtain⟨R8,xo⟩:∃ R,R=XI r7 0 ([]:List Track):=⟨_,rfl⟩
   refine TC.cut (S:=(List Track)×(Option Addr)×Nat) (fun (qn,A_tracks_2,q7)=>[(5,.slice A r1.length c),(7,.i r2.2.1),(9,.slice A_tubes_2 zc.length zp),(10,.slice A_codes_2 zd.length z6),(14,.slice A_tracks_2 qn.length q7)]) (fun (qn,A_tracks_2,q7)=>[Ow A_tracks_2 q7 40 13 (qn.map Track.c),Ow A_codes_2 z6 3 1 (zd.map ic),Ow A_tubes_2 zp 74 1 (q9.map Sl.c),.inr (Bag 71 6 Zd.c q9),Ow A c 38 6 (r1.map Zq.c)]) (fun (qn,A_tracks_2,q7)=>R8=qn∧qn.length≤r7.length) ?_ ?_
   ·refine TC.block (Xp (X:=Nat×(List Track)×(Option Addr)×Nat) (fun (k_2,qd,A_tracks,qp)=>[(5,.slice A r1.length c),(7,.i r2.2.1),(9,.slice A_tubes_2 zc.length zp),(10,.slice A_codes_2 zd.length z6),(14,.slice A_tracks qd.length qp),(64,.slice A_5 r7.length c_5),(65,.i (r7.length:Int)),(66,.i (k_2:Int))]) (fun (k_2,qd,A_tracks,qp)=>[Ow A_tracks qp 40 13 (qd.map Track.c),Ow A_5 c_5 44 20 (r7.map Za.c),Ow A_codes_2 z6 3 1 (zd.map ic),Ow A_tubes_2 zp 74 1 (q9.map Sl.c),.inr (Bag 71 6 Zd.c q9),Ow A c 38 6 (r1.map Zq.c)]) (fun (k_2,qd,A_tracks,qp)=>r7.length-k_2) (fun (k_2,qd,A_tracks,qp)=>k_2≤r7.length∧R8=XI (r7.drop k_2) k_2 qd∧qd.length≤k_2) ?_ (0,([]:List Track),none,0) ⟨aP _,xo,sz⟩ Kr (sb 159))
    rintro⟨k_2,qd,A_tracks,qp⟩ ⟨y4,xg,dh⟩
    refine Zf (Zc 1 [] [(67,.b (decide ((k_2:Int)<(r7.length:Int))))] {} (Z1 (TC.cond (decide ((k_2:Int)<(r7.length:Int))) rfl Kr (fun h3=>?_) (fun h3=>?_))))
    ·have zk:=ltN h3
     obtain⟨x_2,jf⟩:=elN zk
     have zr:=drop_at jf
     refine Yg (TC.seq (TC.block (Zf (TL.v (sV (Instr.indexAt 31 (.slice A_5 r7.length c_5) (.i (k_2:Int)))) 68 (.pointer (some (Ix A_5 (k_2*20)))) (fun w hM=>Zr (hM.rd_at 1 rfl) (by simp) Kr sd sd) {} (TL.v (sV (Instr.loadAt 44 (.pointer (some (Ix A_5 (k_2*20)))))) 69 (Za.v x_2) (fun w hM=>Z9 (n:=20) (off:=0) (i:=k_2) (Za.v x_2) (hM.rd_at 1 rfl) (Z6 jf) Kr Kr Kr) {} (ZA 16 (fun b6=>.p0 b6) (fun b6=>Bk b6 (Za.c Za.zero) 44) (fun b6=>{}) (fun b6=>Yp 0 (Bk b6 (Za.c x_2) 44) (fun _=>{}) (Zb rfl (TC.region (Zc 3 [0] [(70,.slice A_tracks qd.length qp),(72,Track.v x_2.Track)] {} (ZA 73 (fun b7=>.slice (Pa b7) 1 1) (fun b7=>Bk b7 (Track.c x_2.Track) 40) (fun b7=>{}) (fun b7=>TL.os (Γ:=AN) (sV (Builtin.append_ #[57,57] 57 #[.slice A_tracks qd.length qp,.slice (Pa b7) 1 1])) 74 (fun g=>.slice g.1 (qd++([x_2.Track])).length g.2) 2 (fun g=>Ow g.1 g.2 40 13 ((qd++([x_2.Track])).map Track.c)) (QE (bytes:=104) 57 2 ([x_2.Track]) Kr rfl rfl Track.one rfl (fun w hM=>(Rd.lit hM 0 _ rfl Kr Kr Kr)) rfl sa) {} ?_))))))))))))
     rintro⟨A_6,c_6⟩
     exact Zc 6 [] [(14,.slice A_6 ((qd++([x_2.Track])).length) c_6)] {} (Zw rfl (ZY (Z3 (TC.region (Zc 2 [] [(66,.i (w64 ((k_2:Int)+1)))] {} (Zw rfl (TE.rw 66 (.i (w64 ((k_2:Int)+1))) (.i ((k_2+1:Nat):Int)) Kr (ZD k_2 (by omega)) (Z4 (x:=(k_2,qd,A_tracks,qp)) (k_2+1,(qd++([x_2.Track])),A_6,c_6) ⟨by omega,xg.trans (by subst hr1 hr2 hr3 hr4 hr7;rw[zr];exact rfl),sl⟩ (mN zk) Kr (sb 252)))))))))
    ·have zr:=Qb h3
     refine TC.exit (ZT (ZT (Z0 ?_)))
     exact TE.cut (qd,A_tracks,qp) (⟨xg.trans (by subst hr1 hr2 hr3 hr4 hr7;rw[zr];exact rfl),sl⟩) Kr (sb 61)
   ·rintro⟨qn,A_tracks_2,q7⟩ ⟨jv,fa⟩
    refine YC (Zc 3 [] [(77,.slice A_tracks_2 qn.length q7),(78,.slice A_tubes_2 zc.length zp),(79,.slice A_codes_2 zd.length z6)] {} (VI (Γ:=AN) 80 (QJ qn zc zd) (fun r8 g=>.tuple #[.slice g.1 r8.1.length g.2,.i r8.2]) (fun r8 g=>[Ow g.1 g.2 3 1 (r8.1.map ic)]) (fun w hM=>Rq A_tracks_2 q7 qn A_tubes_2 zp zc q9 A_codes_2 z6 zd w (hM.rd_at 0 rfl) (hM.le_at 0 rfl) (hM.rd_at 2 rfl) (BL zo (hM.le_at 2 rfl)) (hM.bag_at 3 rfl) zo (hM.rd_at 1 rfl) (hM.le_at 1 rfl)) {} (fun r8 hr8=>?_)))
    rintro⟨A_7,c_7⟩
    refine Y3 (fun w hM=>hM.short_at 0 rfl) (fun s_r8_0=>Zc 9 [] [(17,.slice A_7 r8.1.length c_7),(18,.i r8.2)] {} (Z1 (Zf (Zc 3 [] [(85,.b (r8.2 != 0))] {} (XM 85 (r8.2 != 0) 9 [] [] (fun β=>[(91,.b (β||((r8.1.length:Int) != (r1.length:Int))))]) Kr {} {} (Zc 10 [] [(92,.b ((r8.2 != 0)||((r8.1.length:Int) != (r1.length:Int))))] {} (XM 92 ((r8.2 != 0)||((r8.1.length:Int) != (r1.length:Int))) 16 [] [] (fun β=>[(98,.b (β||((qn.length:Int) != (r1.length:Int))))]) Kr {} {} (Zb rfl (TC.cond (((r8.2 != 0)||((r8.1.length:Int) != (r1.length:Int)))||((qn.length:Int) != (r1.length:Int))) rfl Kr (fun h4=>?_) (fun h4=>?_))))))))))
    ·exact Zf (Zc 1 [] [(4,.b false)] {} (Zb rfl (TC.ret (Zo (TE.ret [] (.b false) {} (by unfold Xl;refine eS (fun z=>(.b z:Value)) ?_;subst hr1 hr2 hr3 hr4 hr7 hr8;exact Ze h1 (Yr (hR.symm.trans hJ) (Yr (xo.symm.trans jv) (Zm h4 (rfl))))))))))
    ·have yq:=(QA (Z2 (Z2 h4)))
     have ai:=(QA (Ye (Z2 h4)))
     have q4_2:=(QA (Ye h4))
     refine Yg (TC.seq (Zf (Zc 3 [] [(99,.slice A_7 r8.1.length c_7),(100,.i (r8.1.length:Int)),(101,.i 0)] {} (Zb rfl ?_))))
     obtain⟨R9,yd⟩:∃ R,R=XJ r2 zc zd qn r8.1 0:=⟨_,rfl⟩
     refine TC.cut (S:=Unit) (fun (_:Unit)=>[(7,.i r2.2.1),(9,.slice A_tubes_2 zc.length zp),(10,.slice A_codes_2 zd.length z6),(17,.slice A_7 r8.1.length c_7)]) (fun (_:Unit)=>[Ow A_7 c_7 3 1 (r8.1.map ic),Ow A_codes_2 z6 3 1 (zd.map ic),Ow A_tubes_2 zp 74 1 (q9.map Sl.c),.inr (Bag 71 6 Zd.c q9)]) (fun (_:Unit)=>R9=.inl ()) ?_ ?_
     ·refine TC.block (Xp (X:=Nat) (fun k_3=>[(7,.i r2.2.1),(9,.slice A_tubes_2 zc.length zp),(10,.slice A_codes_2 zd.length z6),(14,.slice A_tracks_2 qn.length q7),(17,.slice A_7 r8.1.length c_7),(99,.slice A_7 r8.1.length c_7),(100,.i (r8.1.length:Int)),(101,.i (k_3:Int))]) (fun k_3=>[Ow A_7 c_7 3 1 (r8.1.map ic),Ow A_tracks_2 q7 40 13 (qn.map Track.c),Ow A_codes_2 z6 3 1 (zd.map ic),Ow A_tubes_2 zp 74 1 (q9.map Sl.c),.inr (Bag 71 6 Zd.c q9)]) (fun k_3=>r8.1.length-k_3) (fun k_3=>k_3≤r8.1.length∧R9=XJ r2 zc zd qn (r8.1.drop k_3) k_3) ?_ 0 ⟨aP _,yd⟩ Kr (sb 31))
      rintro k_3 ⟨ln,kr⟩
      refine Zf (Zc 1 [] [(102,.b (decide ((k_3:Int)<(r8.1.length:Int))))] {} (Z1 (TC.cond (decide ((k_3:Int)<(r8.1.length:Int))) rfl Kr (fun h5=>?_) (fun h5=>?_))))
      ·have kx:=ltN h5
       obtain⟨x_3,pz⟩:=elN kx
       have kp_:=Pn hr8 (Io h4);have kx_:=kp_.1 _ (aR pz)
       have ky:=drop_at pz
       refine Yg (TC.seq (TC.block (Zf (Zc 1 [] [(103,.i (k_3:Int))] {} (TL.v (sV (Instr.indexAt 22 (.slice A_7 r8.1.length c_7) (.i (k_3:Int)))) 104 (.pointer (some (Ix A_7 (k_3*1)))) (fun w hM=>Zr (hM.rd_at 0 rfl) (by simp) Kr sd sd) {} (TL.v (sV (Instr.loadAt 3 (.pointer (some (Ix A_7 (k_3*1)))))) 105 (.i x_3) (fun w hM=>Zu (off:=0) (i:=k_3) (.i x_3) (hM.rd_at 0 rfl) (Z6 pz) Kr Kr) {} (Zc 5 [] [(19,.i (k_3:Int)),(20,.i x_3)] {} (Z1 (TC.seq (Kx 14 Kr Kr Kr (YY 3 [] [(108,.b (decide (x_3<0)))] {} (KE 108 (decide (x_3<0)) Kr (fun h6=>?_) (fun h6=>?_)))))))))))))
       ·refine YY 14 [] [(119,.b true)] {} (Q1 rfl (Xg rfl Kr (Zf (Zc 1 [] [(4,.b false)] {} (Zb rfl (TC.ret (Zo (ZL (Zo (Zo (ZL (Zo (Zo ?_)))))))))))))
        exact TE.ret [] (.b false) {} (by unfold Xl;refine eS (fun z=>(.b z:Value)) ?_;subst hr1 hr2 hr3 hr4 hr7 hr8;exact Ze h1 (Yr (hR.symm.trans hJ) (Yr (xo.symm.trans jv) (Ze h4 (Xh (yd.symm.trans (kr.trans (by rw[ky];exact Zm h6 (rfl)))) rfl)))))
       ·have y3:=(Zv h6)
        refine YY 5 [] [(109,.slice A_codes_2 zd.length z6),(110,.i x_3)] {} (TQ.v (sV (Instr.indexAt 22 (.slice A_codes_2 zd.length z6) (.i x_3))) 111 (.pointer (some (Ix A_codes_2 (x_3.toNat*1)))) (fun w hM=>Zr (hM.rd_at 2 rfl) (by simp) Kr sd sd) rfl {} (TQ.v (sV (Instr.loadAt 3 (.pointer (some (Ix A_codes_2 (x_3.toNat*1)))))) 112 (.i (zd[x_3.toNat]?.getD 0)) (fun w hM=>Zu (off:=0) (i:=x_3.toNat) (.i (zd[x_3.toNat]?.getD 0)) (hM.rd_at 2 rfl) (Z6 (getD_at _ _ 0 sd)) Kr Kr) rfl {} (YY 9 [] [(113,.slice A_tracks_2 qn.length q7),(114,.i (k_3:Int))] {} (TQ.v (sV (Instr.indexAt 57 (.slice A_tracks_2 qn.length q7) (.i (k_3:Int)))) 115 (.pointer (some (Ix A_tracks_2 (k_3*13)))) (fun w hM=>Zr (hM.rd_at 1 rfl) (by simp) Kr sd sd) rfl {} (YY 11 [] [(116,.pointer (some ((Ix A_tracks_2 (k_3*13)).add 10)))] {} (TQ.v (sV (Instr.loadAt 3 (.pointer (some ((Ix A_tracks_2 (k_3*13)).add 10))))) 117 (.i ((qn[k_3]?.getD Track.zero).Code)) (fun w hM=>Zu (off:=10) (i:=k_3) (.i ((qn[k_3]?.getD Track.zero).Code)) (hM.rd_at 1 rfl) (Z6 (getD_at _ _ Track.zero sd)) Kr Kr) rfl {} (YY 14 [] [(119,.b ((zd[x_3.toNat]?.getD 0) != ((qn[k_3]?.getD Track.zero).Code)))] {} (Q1 rfl (TC.cond ((zd[x_3.toNat]?.getD 0) != ((qn[k_3]?.getD Track.zero).Code)) rfl Kr (fun h7=>?_) (fun h7=>?_))))))))))
        ·refine Zf (Zc 1 [] [(4,.b false)] {} (Zb rfl (TC.ret (Zo (ZL (Zo (Zo (ZL (Zo (Zo ?_))))))))))
         exact TE.ret [] (.b false) {} (by unfold Xl;refine eS (fun z=>(.b z:Value)) ?_;subst hr1 hr2 hr3 hr4 hr7 hr8;exact Ze h1 (Yr (hR.symm.trans hJ) (Yr (xo.symm.trans jv) (Ze h4 (Xh (yd.symm.trans (kr.trans (by rw[ky];exact Ze h6 (Zm h7 (rfl))))) rfl)))))
        ·have yr:=(QA h7)
         refine Yc (Zc 2 [] [(121,.slice A_tubes_2 zc.length zp),(122,.i x_3)] {} (TL.v (sV (Instr.indexAt 67 (.slice A_tubes_2 zc.length zp) (.i x_3))) 123 (.pointer (some (Ix A_tubes_2 (x_3.toNat*1)))) (fun w hM=>Zr (hM.rd_at 3 rfl) (Jt zo) Kr sd sd) {} (TL.v (sV (Instr.loadAt 74 (.pointer (some (Ix A_tubes_2 (x_3.toNat*1)))))) 124 (.slice ((q9[x_3.toNat]?.getD Sl.zero).A) ((zc[x_3.toNat]?.getD []).length) ((q9[x_3.toNat]?.getD Sl.zero).cap)) (fun w hM=>(by have h:=Zu (P:=Tryz.prog) (T:=74) (off:=0) (i:=x_3.toNat) (.slice (q9[x_3.toNat]?.getD Sl.zero).A (q9[x_3.toNat]?.getD Sl.zero).l.length (q9[x_3.toNat]?.getD Sl.zero).cap) (hM.rd_at 3 rfl) (Z6 (getD_at _ _ Sl.zero (U9 zo sd))) Kr Kr;rw[(JI zo x_3.toNat)] at h;exact h)) {} (Zc 5 [] [(125,.i r2.2.1)] {} (TL.c 126 (JV (zc[x_3.toNat]?.getD []) r2.2.1) (fun r9=>.tuple #[Zd.v r9.1,.i r9.2]) (fun w hM=>GX ((q9[x_3.toNat]?.getD Sl.zero).A) ((q9[x_3.toNat]?.getD Sl.zero).cap) (zc[x_3.toNat]?.getD []) r2.2.1 w (JD (XS (hM.bag_at 4 rfl) x_3.toNat) (JI zo x_3.toNat)) (Lh (XS (hM.bag_at 4 rfl) x_3.toNat) (JI zo x_3.toNat))) {} (fun r9 hr9=>Zc 9 [] [(127,Zd.v r9.1),(128,.i r9.2)] {} (ZA 21 (fun b8=>.p0 b8) (fun b8=>Bk b8 (Zd.c Zd.zero) 71) (fun b8=>{}) (fun b8=>Yp 0 (Bk b8 (Zd.c r9.1) 71) (fun _=>{}) (Zc 12 [] [(22,.i r9.2)] {} (Z1 (Kx 14 Kr Kr Kr (YY 2 [] [(130,.slice A_tracks_2 qn.length q7),(131,.i (k_3:Int))] {} (TQ.v (sV (Instr.indexAt 57 (.slice A_tracks_2 qn.length q7) (.i (k_3:Int)))) 132 (.pointer (some (Ix A_tracks_2 (k_3*13)))) (fun w hM=>Zr (hM.rd_at 2 rfl) (by simp) Kr sd sd) rfl {} (TQ.v (sV (Instr.loadAt 40 (.pointer (some (Ix A_tracks_2 (k_3*13)))))) 133 (Track.v (qn[k_3]?.getD Track.zero)) (fun w hM=>Z9 (n:=13) (off:=0) (i:=k_3) (Track.v (qn[k_3]?.getD Track.zero)) (hM.rd_at 2 rfl) (Z6 (getD_at _ _ Track.zero sd)) Kr Kr Kr) rfl {} (YY 6 [] [(134,.slice A_tubes_2 zc.length zp),(135,.i x_3)] {} (TQ.v (sV (Instr.indexAt 67 (.slice A_tubes_2 zc.length zp) (.i x_3))) 136 (.pointer (some (Ix A_tubes_2 (x_3.toNat*1)))) (fun w hM=>Zr (hM.rd_at 4 rfl) (Jt zo) Kr sd sd) rfl {} (TQ.v (sV (Instr.loadAt 74 (.pointer (some (Ix A_tubes_2 (x_3.toNat*1)))))) 137 (.slice ((q9[x_3.toNat]?.getD Sl.zero).A) ((zc[x_3.toNat]?.getD []).length) ((q9[x_3.toNat]?.getD Sl.zero).cap)) (fun w hM=>(by have h:=Zu (P:=Tryz.prog) (T:=74) (off:=0) (i:=x_3.toNat) (.slice (q9[x_3.toNat]?.getD Sl.zero).A (q9[x_3.toNat]?.getD Sl.zero).l.length (q9[x_3.toNat]?.getD Sl.zero).cap) (hM.rd_at 4 rfl) (Z6 (getD_at _ _ Sl.zero (U9 zo sd))) Kr Kr;rw[(JI zo x_3.toNat)] at h;exact h)) rfl {} (TQ.c 138 (Ql (qn[k_3]?.getD Track.zero) (zc[x_3.toNat]?.getD [])) (fun r10=>.tuple #[.i r10.1,.i r10.2]) (fun w hM=>Hv (qn[k_3]?.getD Track.zero) ((q9[x_3.toNat]?.getD Sl.zero).A) ((q9[x_3.toNat]?.getD Sl.zero).cap) (zc[x_3.toNat]?.getD []) w (JD (XS (hM.bag_at 5 rfl) x_3.toNat) (JI zo x_3.toNat)) (Lh (XS (hM.bag_at 5 rfl) x_3.toNat) (JI zo x_3.toNat))) rfl {} (fun r10 js=>YY 14 [] [(23,.i r10.1),(24,.i r10.2)] {} (Q1 rfl (TC.seq (Kx 33 Kr Kr Kr (YY 3 [] [(143,.b (r9.2 != 0))] {} (Zal 143 (r9.2 != 0) 6 [] [] (fun β=>[(146,.b (β||(r10.2 != 0)))]) Kr {} {} (YY 7 [] [(147,.b ((r9.2 != 0)||(r10.2 != 0)))] {} (KE 147 ((r9.2 != 0)||(r10.2 != 0)) Kr (fun h8=>?_) (fun h8=>?_)))))))))))))))))))))))))))
         ·refine YY 33 [] [(173,.b true)] {} (Q1 rfl (Xg rfl Kr (Zf (Zc 1 [] [(4,.b false)] {} (Zb rfl (TC.ret (ZL (Zo (Zo (ZL (Zo (Zo ?_))))))))))))
          exact TE.ret [] (.b false) {} (by unfold Xl;refine eS (fun z=>(.b z:Value)) ?_;subst hr1 hr2 hr3 hr4 hr7 hr8 hr9 js;exact Ze h1 (Yr (hR.symm.trans hJ) (Yr (xo.symm.trans jv) (Ze h4 (Xh (yd.symm.trans (kr.trans (by rw[ky];exact Ze h6 (Ze h7 (Zm h8 (rfl)))))) rfl)))))
         ·have fk:=(QA (Z2 h8))
          have ct:=(QA (Ye h8))
          refine YY 10 [] [(150,.b (r10.1==2))] {} (KE 150 (r10.1==2) Kr (fun h9=>?_) (fun h9=>?_))
          ·have dc:=(YT h9)
           refine YY 15 [0] [(153,P.v r9.1.Node.At),(154,.slice A_tracks_2 qn.length q7),(155,.i (k_3:Int))] {} (TQ.v (sV (Instr.indexAt 57 (.slice A_tracks_2 qn.length q7) (.i (k_3:Int)))) 156 (.pointer (some (Ix A_tracks_2 (k_3*13)))) (fun w hM=>Zr (hM.rd_at 2 rfl) (by simp) Kr sd sd) rfl {} (YY 17 [] [(157,.pointer (some ((Ix A_tracks_2 (k_3*13)).add 3)))] {} (TQ.v (sV (Instr.loadAt 36 (.pointer (some ((Ix A_tracks_2 (k_3*13)).add 3))))) 158 (P.v ((qn[k_3]?.getD Track.zero).At)) (fun w hM=>Z9 (n:=2) (off:=3) (i:=k_3) (P.v ((qn[k_3]?.getD Track.zero).At)) (hM.rd_at 2 rfl) (Z6 (getD_at _ _ Track.zero sd)) Kr Kr Kr) rfl {} (TQ.c 159 (K6 r9.1.Node.At ((qn[k_3]?.getD Track.zero).At)) (fun r11=>.i r11) (fun w _=>Wb r9.1.Node.At ((qn[k_3]?.getD Track.zero).At) w) rfl {} (fun r11 ju=>YY 21 [] [(160,.slice A_tracks_2 qn.length q7),(161,.i (k_3:Int))] {} (TQ.v (sV (Instr.indexAt 57 (.slice A_tracks_2 qn.length q7) (.i (k_3:Int)))) 162 (.pointer (some (Ix A_tracks_2 (k_3*13)))) (fun w hM=>Zr (hM.rd_at 2 rfl) (by simp) Kr sd sd) rfl {} (YY 23 [] [(163,.pointer (some ((Ix A_tracks_2 (k_3*13)).add 9)))] {} (TQ.v (sV (Instr.loadAt 3 (.pointer (some ((Ix A_tracks_2 (k_3*13)).add 9))))) 164 (.i ((qn[k_3]?.getD Track.zero).Radius)) (fun w hM=>Zu (off:=9) (i:=k_3) (.i ((qn[k_3]?.getD Track.zero).Radius)) (hM.rd_at 2 rfl) (Z6 (getD_at _ _ Track.zero sd)) Kr Kr) rfl {} (YY 26 [] [(165,.slice A_tracks_2 qn.length q7),(166,.i (k_3:Int))] {} (TQ.v (sV (Instr.indexAt 57 (.slice A_tracks_2 qn.length q7) (.i (k_3:Int)))) 167 (.pointer (some (Ix A_tracks_2 (k_3*13)))) (fun w hM=>Zr (hM.rd_at 2 rfl) (by simp) Kr sd sd) rfl {} (YY 28 [] [(168,.pointer (some ((Ix A_tracks_2 (k_3*13)).add 9)))] {} (TQ.v (sV (Instr.loadAt 3 (.pointer (some ((Ix A_tracks_2 (k_3*13)).add 9))))) 169 (.i ((qn[k_3]?.getD Track.zero).Radius)) (fun w hM=>Zu (off:=9) (i:=k_3) (.i ((qn[k_3]?.getD Track.zero).Radius)) (hM.rd_at 2 rfl) (Z6 (getD_at _ _ Track.zero sd)) Kr Kr) rfl {} (YY 33 [] [(173,.b (decide (r11≤(w64 (((qn[k_3]?.getD Track.zero).Radius)*((qn[k_3]?.getD Track.zero).Radius))))))] {} (Q1 rfl (TC.cond (decide (r11≤(w64 (((qn[k_3]?.getD Track.zero).Radius)*((qn[k_3]?.getD Track.zero).Radius))))) rfl Kr (fun h10=>?_) (fun h10=>?_))))))))))))))))
           ·refine Zf (Zc 1 [] [(4,.b false)] {} (Zb rfl (TC.ret (ZL (Zo (Zo (ZL (Zo (Zo ?_)))))))))
            exact TE.ret [] (.b false) {} (by unfold Xl;refine eS (fun z=>(.b z:Value)) ?_;subst hr1 hr2 hr3 hr4 hr7 hr8 hr9 js ju;exact Ze h1 (Yr (hR.symm.trans hJ) (Yr (xo.symm.trans jv) (Ze h4 (Xh (yd.symm.trans (kr.trans (by rw[ky];exact Ze h6 (Ze h7 (Ze h8 (Zm h9 (Zm h10 (rfl)))))))) rfl)))))
           ·have uy:=(Zv h10)
            exact TC.skip (ZY (Z3 (TC.region (Zc 2 [] [(101,.i (w64 ((k_3:Int)+1)))] {} (Zw rfl (TE.rw 101 (.i (w64 ((k_3:Int)+1))) (.i ((k_3+1:Nat):Int)) Kr (ZD k_3 (by omega)) (Z4 (x:=k_3) (k_3+1) ⟨by omega,kr.trans (by subst hr1 hr2 hr3 hr4 hr7 hr8 hr9 js ju;rw[ky];exact Ze h6 (Ze h7 (Ze h8 (Zm h9 (Ze h10 (rfl))))))⟩ (mN kx) Kr (sb 62))))))))
          ·have dc:=(Yl h9)
           exact YY 33 [] [(173,.b false)] {} (Q1 rfl (J1 rfl Kr (TC.skip (ZY (Z3 (TC.region (Zc 2 [] [(101,.i (w64 ((k_3:Int)+1)))] {} (Zw rfl (TE.rw 101 (.i (w64 ((k_3:Int)+1))) (.i ((k_3+1:Nat):Int)) Kr (ZD k_3 (by omega)) (Z4 (x:=k_3) (k_3+1) ⟨by omega,kr.trans (by subst hr1 hr2 hr3 hr4 hr7 hr8 hr9 js;rw[ky];exact Ze h6 (Ze h7 (Ze h8 (Ze h9 (rfl)))))⟩ (mN kx) Kr (sb 62)))))))))))
      ·have ky:=Qb h5
       refine TC.exit (ZT (ZT (Z0 ?_)))
       exact TE.cut () (kr.trans (by subst hr1 hr2 hr3 hr4 hr7 hr8;rw[ky];exact rfl)) Kr (sb 29)
     ·intro _ gv
      refine YC (Zc 4 [] [(176,.slice A_7 r8.1.length c_7),(177,.slice A_tubes_2 zc.length zp),(178,.slice A_codes_2 zd.length z6),(179,.i r2.2.1)] {} (VI (Γ:=AN) 180 (Xe r8.1 zc zd r2.2.1) (fun r12 g=>.tuple #[.slice g.1 r12.1.length g.2,.i r12.2]) (fun r12 g=>[Ow g.1 g.2 3 1 (r12.1.map ic)]) (fun w hM=>DV A_7 c_7 r8.1 A_tubes_2 zp zc q9 A_codes_2 z6 zd r2.2.1 w (hM.rd_at 0 rfl) (hM.le_at 0 rfl) (hM.rd_at 2 rfl) (BL zo (hM.le_at 2 rfl)) (hM.bag_at 3 rfl) zo (hM.rd_at 1 rfl) (hM.le_at 1 rfl)) {} (fun r12 kb=>?_)))
      rintro⟨A_8,c_8⟩
      exact Y3 (fun w hM=>hM.short_at 0 rfl) (fun oh=>Zc 10 [] [(18,.i r12.2),(25,.slice A_8 r12.1.length c_8)] {} (Zz (Zc 3 [] [(185,.b (r12.2==0))] {} (XM 185 (r12.2==0) 7 [] [] (fun β=>[(189,.b (β&&((r12.1.length:Int)==0)))]) Kr {} {} (Zc 8 [] [(4,.b ((r12.2==0)&&((r12.1.length:Int)==0)))] {} (Zb rfl (TC.ret (TE.ret [] (.b ((r12.2==0)&&((r12.1.length:Int)==0))) {} (by unfold Xl;refine eS (fun z=>(.b z:Value)) ?_;subst hr1 hr2 hr3 hr4 hr7 hr8 kb;exact Ze h1 (Yr (hR.symm.trans hJ) (Yr (xo.symm.trans jv) (Ze h4 (Q3 (yd.symm.trans gv) (rfl))))))))))))))
end Go.Sky
end
