/- Lemmas toward the given statement (part 13 of 20): Wb Va Vb. Each theorem states its own conditions; nothing is assumed beyond them. -/
import Derived.Test.YtmiemlhgkgfkeaaGreatDoorTw03
import Derived.Test.YtmiemlhgkgfkeaaGreatDoorRows
import Derived.Test.YtmiemlhgkgfkeaaGreatDoorTw02
set_option maxRecDepth 100000
section
namespace Go.Sky
open Go Go.Eng Go.Proofs
def Qz (t:Track) (s:Zm) (qd:Int):Bool×Int :=
 let r1:=X8 t
 cond (r1 != 0) (
  (false,r1)) (
  let r2:=ZD s
  cond (r2 != 0) (
   (false,r2)) (
   cond ((decide (qd<0))||(decide (qd>60000))) (
    (false,4)) (
    cond (t.Time != s.Time) (
     (false,12)) (
     let r3:=Y3 t.At s.At (w64 (t.Radius+s.Error))
     cond (r3&&(decide ((LW (w64 (t.Height-s.Height)) (w64 (s.Height-t.Height)))≤qd))) (
      cond (t.Code==s.Code) (
       (true,0)) (
       cond (t.Code==(-1)) (
        (true,0)) (
        (s.Code==(-1),0)))) (
      (false,0))))))
set_option maxHeartbeats 4000000 in
theorem Lp (t:Track) (s:Zm) (qd:Int) (w:World):Calls Tryz.prog 85 #[Track.v t,Zm.v s,.int .i64 qd] w (Ret w (.tuple #[.bool ((Qz t s qd).1),.int .i64 ((Qz t s qd).2)])):=by
 refine Zo (vs:=[Track.v t,Zm.v s,.i qd]) (w:=w) Tryz.func85 rfl Tryz.ntmps85 rfl (Ze (ZH 3 (fun b1=>.p0 b1) (fun b1=>Bk b1 (Track.c t) 70) (fun b1=>{}) (fun b1=>ZH 4 (fun b2=>.p0 b2) (fun b2=>Bk b2 (Zm.c s) 46) (fun b2=>{}) (fun b2=>Zc 4 [] [(6,.b false),(7,.i 0)] {} (Zz (Ze (Zc 1 [1] [(10,Track.v t)] {} (TL.c 11 (X8 t) (fun r1=>.i r1) (fun w _=>Ux t w) {} (fun r1 hr1=>Zc 3 [] [(8,.i r1)] {} (Zv (Zc 2 [] [(13,.b (r1 != 0))] {} (Zb rfl (TC.cond (r1 != 0) rfl Kr (fun h1=>?_) (fun h1=>?_))))))))))))))
 ·exact Ze (Zc 3 [] [(6,.b false),(7,.i r1)] {} (Zb rfl (TC.ret (Zq (TE.ret [] (.tuple #[.b false,.i r1]) {} (by unfold Qz;refine eS (a:=(false,r1)) (fun (z:Bool×Int)=>(.tuple #[.b z.1,.i z.2]:Value)) ?_;subst hr1;exact Zk h1 (rfl)))))))
 ·refine Yg (TC.seq (Ze (Zc 1 [0] [(15,Zm.v s)] {} (TL.c 16 (ZD s) (fun r2=>.i r2) (fun w _=>Qc s w) {} (fun r2 hr2=>Zc 3 [] [(9,.i r2)] {} (Zv (Zc 2 [] [(18,.b (r2 != 0))] {} (Zb rfl (TC.cond (r2 != 0) rfl Kr (fun h2=>?_) (fun h2=>?_))))))))))
  ·exact Ze (Zc 3 [] [(6,.b false),(7,.i r2)] {} (Zb rfl (TC.ret (Zq (TE.ret [] (.tuple #[.b false,.i r2]) {} (by unfold Qz;refine eS (a:=(false,r2)) (fun (z:Bool×Int)=>(.tuple #[.b z.1,.i z.2]:Value)) ?_;subst hr1 hr2;exact Zd h1 (Zk h2 (rfl))))))))
  ·refine Yg (TC.seq (TC.block (Ze (Zc 3 [] [(23,.b (decide (qd<0)))] {} (XT 23 (decide (qd<0)) 6 [] [] (fun β=>[(26,.b (β||(decide (qd>60000))))]) Kr {} {} (Zc 7 [] [(20,.b ((decide (qd<0))||(decide (qd>60000))))] {} (Zb rfl (TC.cond ((decide (qd<0))||(decide (qd>60000))) rfl Kr (fun h3=>?_) (fun h3=>?_)))))))))
   ·refine Ze (Zc 2 [] [(6,.b false),(7,.i 4)] {} (Zb rfl (TC.ret (ZY (Zq ?_)))))
    exact TE.ret [] (.tuple #[.b false,.i 4]) {} (by unfold Qz;refine eS (a:=(false,4)) (fun (z:Bool×Int)=>(.tuple #[.b z.1,.i z.2]:Value)) ?_;subst hr1 hr2;exact Zd h1 (Zd h2 (Zk h3 (rfl))))
   ·refine Ze (Zc 6 [1,0] [(27,.b (t.Time != s.Time))] {} (Zb rfl (TC.cond (t.Time != s.Time) rfl Kr (fun h4=>?_) (fun h4=>?_))))
    ·refine Ze (Zc 2 [] [(6,.b false),(7,.i 12)] {} (Zb rfl (TC.ret (ZY (Zq ?_)))))
     exact TE.ret [] (.tuple #[.b false,.i 12]) {} (by unfold Qz;refine eS (a:=(false,12)) (fun (z:Bool×Int)=>(.tuple #[.b z.1,.i z.2]:Value)) ?_;subst hr1 hr2;exact Zd h1 (Zd h2 (Zd h3 (Zk h4 (rfl)))))
    ·refine TC.skip (Yr (YZ (Zc 9 [1,0,1,0] [(34,P.v t.At),(36,P.v s.At),(41,.i (w64 (t.Radius+s.Error)))] {} (TL.c 42 (Y3 t.At s.At (w64 (t.Radius+s.Error))) (fun r3=>.b r3) (fun w _=>Kw t.At s.At (w64 (t.Radius+s.Error)) w) {} (fun r3 hr3=>Zc 11 [] [(43,.b r3)] {} (XT 43 r3 25 [1,0,0,1] [] (fun β=>[(57,.b (β&&(decide ((LW (w64 (t.Height-s.Height)) (w64 (s.Height-t.Height)))≤qd))))]) Kr {} {} (Zc 26 [] [(58,.b (r3&&(decide ((LW (w64 (t.Height-s.Height)) (w64 (s.Height-t.Height)))≤qd))))] {} (Yo 58 (r3&&(decide ((LW (w64 (t.Height-s.Height)) (w64 (s.Height-t.Height)))≤qd))) Kr (fun h5=>?_) (fun h5=>?_)))))))))
     ·refine Zc 32 [1,0] [(64,.b (t.Code==s.Code))] {} (Yo 64 (t.Code==s.Code) Kr (fun h6=>?_) (fun h6=>?_))
      ·exact Zc 44 [] [(6,.b true),(7,.i 0)] {} (Zb rfl (TC.ret (TE.ret [] (.tuple #[.b true,.i 0]) {} (by unfold Qz;refine eS (a:=(true,0)) (fun (z:Bool×Int)=>(.tuple #[.b z.1,.i z.2]:Value)) ?_;subst hr1 hr2 hr3;exact Zd h1 (Zd h2 (Zd h3 (Zd h4 (Zk h5 (Zk h6 (rfl))))))))))
      ·refine Zc 37 [1] [(69,.b (t.Code==(-1)))] {} (Yo 69 (t.Code==(-1)) Kr (fun h7=>?_) (fun h7=>?_))
       ·exact Zc 44 [] [(6,.b true),(7,.i 0)] {} (Zb rfl (TC.ret (TE.ret [] (.tuple #[.b true,.i 0]) {} (by unfold Qz;refine eS (a:=(true,0)) (fun (z:Bool×Int)=>(.tuple #[.b z.1,.i z.2]:Value)) ?_;subst hr1 hr2 hr3;exact Zd h1 (Zd h2 (Zd h3 (Zd h4 (Zk h5 (Zd h6 (Zk h7 (rfl)))))))))))
       ·exact Zc 44 [0] [(6,.b (s.Code==(-1))),(7,.i 0)] {} (Zb rfl (TC.ret (TE.ret [] (.tuple #[.b (s.Code==(-1)),.i 0]) {} (by unfold Qz;refine eS (a:=(s.Code==(-1),0)) (fun (z:Bool×Int)=>(.tuple #[.b z.1,.i z.2]:Value)) ?_;subst hr1 hr2 hr3;exact Zd h1 (Zd h2 (Zd h3 (Zd h4 (Zk h5 (Zd h6 (Zd h7 (rfl)))))))))))
     ·exact Zc 44 [] [(6,.b false),(7,.i 0)] {} (Zb rfl (TC.ret (TE.ret [] (.tuple #[.b false,.i 0]) {} (by unfold Qz;refine eS (a:=(false,0)) (fun (z:Bool×Int)=>(.tuple #[.b z.1,.i z.2]:Value)) ?_;subst hr1 hr2 hr3;exact Zd h1 (Zd h2 (Zd h3 (Zd h4 (Zd h5 (rfl)))))))))
def Jh (qd:Int) (x:Track):List Zm→Nat→(List Int)→((List Int) ⊕ ((List (List Int))×Int))
 | [],_,row=>.inl row
 | x_2::xs,k_2,row=>let r1:=Qz x x_2 qd
  cond (r1.2 != 0) (
   .inr ([],r1.2)) (
   cond r1.1 (
    let r2:=Yy x.At x_2.At
    Jh qd x xs (k_2+1) ((row.set k_2 (-1)).set k_2 (ZC (w64 (r2.tdiv 10000)) 1073741824))) (
    Jh qd x xs (k_2+1) (row.set k_2 (-1))))
def J8 (qw:List Zm) (qd:Int):List Track→Nat→(List (List Int))→((List (List Int)) ⊕ ((List (List Int))×Int))
 | [],_,out=>.inl out
 | x::xs,k,out=>Sum.elim (fun qx =>
   J8 qw qd xs (k+1) (out ++ [qx])) (fun r=>.inr r) (Jh qd x qw 0 (List.replicate ((qw.length:Int).toNat) (0:Int)))
def XK (qi:List Track) (qw:List Zm) (qd:Int):List (List Int)×Int :=
 cond ((decide ((qi.length:Int)>32))||(decide ((qw.length:Int)>32))) (
  ([],2)) (
  Sum.elim (fun ql =>
   (ql,0)) (fun r=>r) (J8 qw qd qi 0 ([]:List (List Int))))
set_option maxHeartbeats 4000000 in
theorem NF (A_tracks:Option Addr) (qp:Nat) (qi:List Track) (A_spots:Option Addr) (j6:Nat) (qw:List Zm) (qd:Int) (w:World) (y2:Rd w 13 A_tracks (qi.map Track.c)) (_hc_tracks:qi.length≤qp) (um:Rd w 6 A_spots (qw.map Zm.c)) (_hc_spots:qw.length≤j6):Calls Tryz.prog 46 #[.slice A_tracks qi.length qp,.slice A_spots qw.length j6,.int .i64 qd] w (JD (Γ:=((Option Addr×Nat)×List (Sl Int))) (cx w) (fun g=>.tuple #[.slice g.1.1 ((XK qi qw qd).1.length) g.1.2,.int .i64 ((XK qi qw qd).2)]) (fun g=>[.inr (XG ((XK qi qw qd).1=g.2.map Sl.l)),.inr (Own g.1.1 g.1.2 22 1 (g.2.map Sl.c)),.inr (Bag 3 1 ic g.2)])):=by
 have fq:=y2.short;rw[aF] at fq
 have dp:=um.short;rw[aF] at dp
 refine Zo (vs:=[.slice A_tracks qi.length qp,.slice A_spots qw.length j6,.i qd]) (w:=w) Tryz.func46 rfl Tryz.ntmps46 rfl (Ze (Zc 2 [] [(6,.slice none 0 0),(7,.i 0)] {} (Zz (Ze (Zc 4 [] [(19,.b (decide ((qi.length:Int)>32)))] {} (XT 19 (decide ((qi.length:Int)>32)) 8 [] [] (fun β=>[(23,.b (β||(decide ((qw.length:Int)>32))))]) Kr {} {} (Zb rfl (TC.cond ((decide ((qi.length:Int)>32))||(decide ((qw.length:Int)>32))) rfl Kr (fun h1=>?_) (fun h1=>?_)))))))))
 ·refine Ze (Zc 2 [] [(6,.slice none 0 0),(7,.i 2)] {} (Zb rfl (TC.ret (Zq ?_))))
  have e:XK qi qw qd=([],2):=by unfold XK;exact Zk h1 (rfl)
  refine Yp [Ow none 0 22 1 (([]:List (Sl Int)).map Sl.c),.inr (Bag 3 1 ic ([]:List (Sl Int)))] (fun _ hM=>(hM.bag_nil 3 1 ic).emptyrow none 22 1) ?_
  rw[e]
  exact ZN (.inl rfl) ((none,0),([]:List (Sl Int))) [] (.tuple #[.slice none 0 0,.i 2]) {} rfl (fun _ hM=>(hM.sub (sb 3)).fact rfl)
 ·have j4:=(Zt (Zx h1))
  have dj:=(Zt (Z9 h1))
  refine ZI (Zc 1 [] [(8,.slice none 0 0)] {} (Zz (Ze (Zc 3 [] [(24,.slice A_tracks qi.length qp),(25,.i (qi.length:Int)),(26,.i 0)] {} (Zb rfl (QS [Ow none 0 22 1 (([]:List (Sl Int)).map Sl.c),.inr (Bag 3 1 ic ([]:List (Sl Int)))] (fun _ hM=>(hM.bag_nil 3 1 ic).emptyrow none 22 1) ?_))))))
  obtain⟨R3,hR⟩:∃ R,R=J8 qw qd qi 0 ([]:List (List Int)):=⟨_,rfl⟩
  refine TC.cut (S:=(List (List Int))×(Option Addr)×Nat×(List (Sl Int))) (fun (ql,A_out_2,qk,ki)=>[(8,.slice A_out_2 ql.length qk)]) (fun (ql,A_out_2,qk,ki)=>[Ow A_out_2 qk 22 1 (ki.map Sl.c),.inr (Bag 3 1 ic ki)]) (fun (ql,A_out_2,qk,ki)=>R3=.inl ql∧ql.length≤qi.length∧(ql=ki.map Sl.l)) ?_ ?_
  ·refine TC.block (XB (X:=Nat×(List (List Int))×(Option Addr)×Nat×(List (Sl Int))) (fun (k,out,A_out,qg,za)=>[(1,.slice A_spots qw.length j6),(2,.i qd),(8,.slice A_out out.length qg),(24,.slice A_tracks qi.length qp),(25,.i (qi.length:Int)),(26,.i (k:Int))]) (fun (k,out,A_out,qg,za)=>[Ow A_out qg 22 1 (za.map Sl.c),.inr (Bag 3 1 ic za)]) (fun (k,out,A_out,qg,za)=>qi.length-k) (fun (k,out,A_out,qg,za)=>k≤qi.length∧R3=J8 qw qd (qi.drop k) k out∧out.length≤k∧(out=za.map Sl.l)) ?_ (0,([]:List (List Int)),none,0,([]:List (Sl Int))) ⟨aN _,hR,sz,rfl⟩ Kr (sb 3))
   rintro⟨k,out,A_out,qg,za⟩ ⟨hk,hI,wo,xn⟩
   refine Ze (Zc 1 [] [(27,.b (decide ((k:Int)<(qi.length:Int))))] {} (Zz (TC.cond (decide ((k:Int)<(qi.length:Int))) rfl Kr (fun h2=>?_) (fun h2=>?_))))
   ·have hlt:=ltN h2
    obtain⟨x,hx⟩:=elN hlt
    have hd:=drop_at hx
    refine Yg (TC.seq (TC.block (Ze (TL.v (sV (Instr.indexAt 66 (.slice A_tracks qi.length qp) (.i (k:Int)))) 28 (.pointer (some (Ix A_tracks (k*13)))) (fun w hM=>Zy (y2.sat hM) (by simp) Kr sd sd) {} (TL.v (sV (Instr.loadAt 70 (.pointer (some (Ix A_tracks (k*13)))))) 29 (Track.v x) (fun w hM=>Yd (n:=13) (off:=0) (i:=k) (Track.v x) (y2.sat hM) (ZR hx) Kr Kr Kr) {} (ZH 10 (fun b1=>.p0 b1) (fun b1=>Bk b1 (Track.c Track.zero) 70) (fun b1=>{}) (fun b1=>Ym 0 (Bk b1 (Track.c x) 70) (fun _=>{}) (Zv (Zc 2 [] [(31,.i (qw.length:Int))] {} (TL.on (Γ:=AN) (sV (Instr.makeSlice 22 (.i (qw.length:Int)) (.i (qw.length:Int)))) 32 (fun g=>.slice g.1 (List.replicate ((qw.length:Int).toNat) (0:Int)).length g.2) (fun g=>Ow g.1 g.2 3 1 ((List.replicate ((qw.length:Int).toNat) (0:Int)).map ic)) (V0 (P:=Tryz.prog) (c:=ic) (t:=22) (e:=3) (sz:=1) (bytes:=8) 0 .i64 .i64 ((qw.length:Int).toNat) Kr Kr sd sd) {} ?_))))))))))
    rintro⟨A,c⟩
    refine Zc 4 [] [(11,.slice A ((List.replicate ((qw.length:Int).toNat) (0:Int)).length) c)] {} (Zz (Ze (Zc 3 [] [(33,.slice A_spots qw.length j6),(34,.i (qw.length:Int)),(35,.i 0)] {} (Zb rfl ?_))))
    obtain⟨R5,x9⟩:∃ R,R=Jh qd x qw 0 (List.replicate ((qw.length:Int).toNat) (0:Int)):=⟨_,rfl⟩
    refine TC.cut (S:=(List Int)) (fun qx=>[(1,.slice A_spots qw.length j6),(2,.i qd),(8,.slice A_out out.length qg),(11,.slice A qx.length c),(24,.slice A_tracks qi.length qp),(25,.i (qi.length:Int)),(26,.i (k:Int))]) (fun qx=>[Ow A c 3 1 (qx.map ic),Ow A_out qg 22 1 (za.map Sl.c),.inr (Bag 3 1 ic za)]) (fun qx=>R5=.inl qx∧qx.length=((qw.length:Int).toNat)) ?_ ?_
    ·refine TC.block (XB (X:=Nat×(List Int)) (fun (k_2,row)=>[(1,.slice A_spots qw.length j6),(2,.i qd),(8,.slice A_out out.length qg),(10,.p0 b1),(11,.slice A row.length c),(24,.slice A_tracks qi.length qp),(25,.i (qi.length:Int)),(26,.i (k:Int)),(33,.slice A_spots qw.length j6),(34,.i (qw.length:Int)),(35,.i (k_2:Int))]) (fun (k_2,row)=>[Ow A c 3 1 (row.map ic),Bk b1 (Track.c x) 70,Ow A_out qg 22 1 (za.map Sl.c),.inr (Bag 3 1 ic za)]) (fun (k_2,row)=>qw.length-k_2) (fun (k_2,row)=>k_2≤qw.length∧R5=Jh qd x (qw.drop k_2) k_2 row∧row.length=((qw.length:Int).toNat)) ?_ (0,(List.replicate ((qw.length:Int).toNat) (0:Int))) ⟨aN _,x9,sz⟩ Kr (sb 15))
     rintro⟨k_2,row⟩ ⟨y9,xg,ra⟩
     refine Ze (Zc 1 [] [(36,.b (decide ((k_2:Int)<(qw.length:Int))))] {} (Zz (TC.cond (decide ((k_2:Int)<(qw.length:Int))) rfl Kr (fun h3=>?_) (fun h3=>?_))))
     ·have zp:=ltN h3
      obtain⟨x_2,xw⟩:=elN zp
      have zr:=drop_at xw
      refine Yg (TC.seq (TC.block (Ze (Zc 1 [] [(37,.i (k_2:Int))] {} (TL.v (sV (Instr.indexAt 52 (.slice A_spots qw.length j6) (.i (k_2:Int)))) 38 (.pointer (some (Ix A_spots (k_2*6)))) (fun w hM=>Zy (um.sat hM) (by simp) Kr sd sd) {} (TL.v (sV (Instr.loadAt 46 (.pointer (some (Ix A_spots (k_2*6)))))) 39 (Zm.v x_2) (fun w hM=>Yd (n:=6) (off:=0) (i:=k_2) (Zm.v x_2) (um.sat hM) (ZR xw) Kr Kr Kr) {} (ZH 13 (fun b2=>.p0 b2) (fun b2=>Bk b2 (Zm.c Zm.zero) 46) (fun b2=>{}) (fun b2=>Zc 5 [] [(12,.i (k_2:Int))] {} (Ym 0 (Bk b2 (Zm.c x_2) 46) (fun _=>{}) (Zv (Zc 3 [2,0] [(41,Track.v x),(42,Zm.v x_2),(43,.i qd)] {} (TL.c 44 (Qz x x_2 qd) (fun r1=>.tuple #[.b r1.1,.i r1.2]) (fun w _=>Lp x x_2 qd w) {} (fun r1 hr1=>Zc 9 [] [(14,.b r1.1),(15,.i r1.2)] {} (Zz (Ze (Zc 2 [] [(48,.b (r1.2 != 0))] {} (Zb rfl (TC.cond (r1.2 != 0) rfl Kr (fun h4=>?_) (fun h4=>?_)))))))))))))))))))
      ·refine Ze (Zc 3 [] [(6,.slice none 0 0),(7,.i r1.2)] {} (Zb rfl (TC.ret (Zq (ZY (Zq (Zq (ZY (Zq (Zq (ZY (Zq (Zq (ZY (Zq (Zq ?_))))))))))))))))
       have e:XK qi qw qd=([],r1.2):=by subst hr1;unfold XK;exact Zd h1 (Q4 (hR.symm.trans (hI.trans (by rw[hd];exact Q4 (x9.symm.trans (xg.trans (by rw[zr];exact Zk h4 (rfl)))) rfl))) rfl)
       refine Yp [Ow none 0 22 1 (([]:List (Sl Int)).map Sl.c),.inr (Bag 3 1 ic ([]:List (Sl Int))),Bk b2 (Zm.c x_2) 46,Ow A c 3 1 (row.map ic),Bk b1 (Track.c x) 70,Ow A_out qg 22 1 (za.map Sl.c),.inr (Bag 3 1 ic za)] (fun _ hM=>(hM.bag_nil 3 1 ic).emptyrow none 22 1) ?_
       rw[e]
       exact ZN (.inl rfl) ((none,0),([]:List (Sl Int))) [] (.tuple #[.slice none 0 0,.i r1.2]) {} rfl (fun _ hM=>(hM.sub (sb 3)).fact rfl)
      ·have yl:=(Jb h4)
       refine ZI (Zc 2 [] [(50,.slice A row.length c),(51,.i (k_2:Int))] {} (TL.v (sV (Instr.indexAt 22 (.slice A row.length c) (.i (k_2:Int)))) 52 (.pointer (some (Ix A (k_2*1)))) (fun w hM=>Zy (hM.rd_at 1 rfl) (by simp) Kr sd sd) {} (Uk (Γ:=Unit) (sU (Instr.storeAt 3 (.pointer (some ((Ix A (k_2*1)).add 0))) (.i (-1)))) 1 (Ow A c 3 1 ((row.set k_2 (-1)).map ic)) (X5 (n:=1) (off:=0) (.i (-1)) 1 ((row.set k_2 (-1)).map ic) rfl (ZR (getD_at _ _ 0 sd)) Kr Kr Kr Kr (Qn Kr)) Kr (TL.rw 11 (.slice A row.length c) (.slice A ((row.set k_2 (-1)).length) c) Kr (by simp only[aQ]) (Zv (Zc 1 [] [(53,.b r1.1)] {} (Zb rfl (TC.cond r1.1 rfl Kr (fun h5=>?_) (fun h5=>?_)))))))))
       ·exact TC.region (Zc 6 [2,0] [(54,.slice A ((row.set k_2 (-1)).length) c),(55,.i (k_2:Int)),(57,P.v x.At),(59,P.v x_2.At)] {} (TL.c 60 (Yy x.At x_2.At) (fun r2=>.i r2) (fun w _=>VX x.At x_2.At w) {} (fun r2 hr2=>Zc 9 [] [(62,.i (ZC (w64 (r2.tdiv 10000)) 1073741824))] {} (TL.v (sV (Instr.indexAt 22 (.slice A ((row.set k_2 (-1)).length) c) (.i (k_2:Int)))) 63 (.pointer (some (Ix A (k_2*1)))) (fun w hM=>Zy (hM.rd_at 1 rfl) (by simp) Kr sd sd) {} (Uk (Γ:=Unit) (sU (Instr.storeAt 3 (.pointer (some ((Ix A (k_2*1)).add 0))) (.i (ZC (w64 (r2.tdiv 10000)) 1073741824)))) 1 (Ow A c 3 1 (((row.set k_2 (-1)).set k_2 (ZC (w64 (r2.tdiv 10000)) 1073741824)).map ic)) (X5 (n:=1) (off:=0) (.i (ZC (w64 (r2.tdiv 10000)) 1073741824)) 1 (((row.set k_2 (-1)).set k_2 (ZC (w64 (r2.tdiv 10000)) 1073741824)).map ic) rfl (ZR (getD_at _ _ 0 sd)) Kr Kr Kr Kr (Qn Kr)) Kr (TL.rw 11 (.slice A ((row.set k_2 (-1)).length) c) (.slice A (((row.set k_2 (-1)).set k_2 (ZC (w64 (r2.tdiv 10000)) 1073741824)).length) c) Kr (by simp only[aQ]) (Z2 rfl (Yr (Z4 (TC.region (Zc 2 [] [(35,.i (w64 ((k_2:Int)+1)))] {} (Z2 rfl (TE.rw 35 (.i (w64 ((k_2:Int)+1))) (.i ((k_2+1:Nat):Int)) Kr (ZT k_2 (by omega)) (Z7 (x:=(k_2,row)) (k_2+1,((row.set k_2 (-1)).set k_2 (ZC (w64 (r2.tdiv 10000)) 1073741824))) ⟨by omega,xg.trans (by subst hr1 hr2;rw[zr];exact Zd h4 (Zk h5 (rfl))),sl⟩ (mN zp) Kr (sb 30)))))))))))))))
       ·exact TC.skip (Yr (Z4 (TC.region (Zc 2 [] [(35,.i (w64 ((k_2:Int)+1)))] {} (Z2 rfl (TE.rw 35 (.i (w64 ((k_2:Int)+1))) (.i ((k_2+1:Nat):Int)) Kr (ZT k_2 (by omega)) (Z7 (x:=(k_2,row)) (k_2+1,(row.set k_2 (-1))) ⟨by omega,xg.trans (by subst hr1;rw[zr];exact Zd h4 (Zd h5 (rfl))),sl⟩ (mN zp) Kr (sb 30))))))))
     ·have zr:=QE h3
      refine TC.exit (Yc (Yc (Z1 ?_)))
      exact TE.cut row (⟨xg.trans (by rw[zr];exact rfl),sl⟩) Kr (sb 13)
    ·rintro qx ⟨va,ft⟩
     refine Z4 (TC.region (Zc 2 [] [(65,.slice A_out out.length qg),(66,.slice A qx.length c)] {} (ZH 67 (fun b3=>.slice (Pa b3) 1 1) (fun b3=>Bk b3 #[.slice A qx.length c] 22) (fun b3=>{}) (fun b3=>TL.rw 65 (.slice A_out out.length qg) (.slice A_out za.length qg) Kr (by rw[UY xn]) (GK (Γ:=AN) (sV (Builtin.append_ #[114,114] 114 #[.slice A_out za.length qg,.slice (Pa b3) 1 1])) (some 68) (fun g=>.slice g.1 (za ++ [(⟨A,c,qx⟩:Sl Int)]).length g.2) (fun g=>[Bk b3 #[.slice A qx.length c] 22,Ow A c 3 1 (qx.map ic),Ow g.1 g.2 22 1 ((za ++ [(⟨A,c,qx⟩:Sl Int)]).map Sl.c),.inr (Bag 3 1 ic za)]) (fun g=>[(1,.slice A_spots qw.length j6),(2,.i qd),(24,.slice A_tracks qi.length qp),(25,.i (qi.length:Int)),(26,.i (k:Int)),(68,.slice g.1 ((za ++ [(⟨A,c,qx⟩:Sl Int)]).length) g.2)]) (Jc (bytes:=24) 114 2 [(⟨A,c,qx⟩:Sl Int)] Kr rfl rfl Sl.one rfl (fun w hM=>(Rd.lit hM 0 _ rfl Kr Kr Kr)) rfl (by have hz_:=UY xn;rw[← hz_];exact sa)) Kr (fun g=>Kr) ?_)))))
     rintro⟨A_2,c_2⟩
     exact TL.rw 68 (.slice A_2 ((za ++ [(⟨A,c,qx⟩:Sl Int)]).length) c_2) (.slice A_2 ((out ++ [qx]).length) c_2) Kr (by rw[← UY (SU (s:=(⟨A,c,qx⟩:Sl Int)) xn)]) (YS [.inr (Bag 3 1 ic (za ++ [(⟨A,c,qx⟩:Sl Int)])),Bk b3 #[.slice A qx.length c] 22,Ow A_2 c_2 22 1 ((za ++ [(⟨A,c,qx⟩:Sl Int)]).map Sl.c)] (fun _ hM=>Sat.bag_add (hM.perm (((List.Perm.cons _ (aC _)).trans (List.Perm.swap _ _ _)).trans (List.Perm.cons _ (((List.Perm.cons _ ((List.Perm.cons _ (aC _)).trans (List.Perm.swap _ _ _))).trans (List.Perm.swap _ _ _)).trans (List.Perm.cons _ (aC _))))))) (YS [Ow A_2 c_2 22 1 ((za ++ [(⟨A,c,qx⟩:Sl Int)]).map Sl.c),.inr (Bag 3 1 ic (za ++ [(⟨A,c,qx⟩:Sl Int)])),Bk b3 #[.slice A qx.length c] 22] (fun _ hM=>hM.perm (px [2,0,1])) (Zc 5 [] [(8,.slice A_2 ((out ++ [qx]).length) c_2)] {} (Z2 rfl (Yr (Z4 (TC.region (Zc 2 [] [(26,.i (w64 ((k:Int)+1)))] {} (Z2 rfl (TE.rw 26 (.i (w64 ((k:Int)+1))) (.i ((k+1:Nat):Int)) Kr (ZT k (by omega)) (Z7 (x:=(k,out,A_out,qg,za)) (k+1,(out ++ [qx]),A_2,c_2,(za ++ [(⟨A,c,qx⟩:Sl Int)])) ⟨by omega,hI.trans (by rw[hd];exact Q2 (x9.symm.trans va) (rfl)),sl,(SU (s:=(⟨A,c,qx⟩:Sl Int)) xn)⟩ (mN hlt) Kr (sb 3))))))))))))
   ·have hd:=QE h2
    refine TC.exit (Yc (Yc (Z1 ?_)))
    exact TE.cut (out,A_out,qg,za) (⟨hI.trans (by rw[hd];exact rfl),sl,xn⟩) Kr (sb 3)
  ·rintro⟨ql,A_out_2,qk,ki⟩ ⟨hJ,vu,pk⟩
   refine YZ (Zc 3 [] [(6,.slice A_out_2 ql.length qk),(7,.i 0)] {} (Zb rfl (TC.ret ?_)))
   have e:XK qi qw qd=(ql,0):=by unfold XK;exact Zd h1 (Q2 (hR.symm.trans hJ) (rfl))
   rw[e]
   exact ZN (.inl rfl) ((A_out_2,qk),ki) [] (.tuple #[.slice A_out_2 ql.length qk,.i 0]) {} rfl (fun _ hM=>(hM.sub (sb 3)).fact pk)
end Go.Sky
end
section
namespace Go.Sky
open Go Go.Eng Go.Proofs
def Qk:List Int→Nat→((Unit) ⊕ (Int))
 | [],_=>.inl ()
 | x_2::xs,k_2=>cond ((decide (x_2<(-1)))||(decide (x_2>1099511627776))) (
   .inr 4) (
   Qk xs (k_2+1))
def Ql (qa:List (List Int)):List (List Int)→Nat→((Unit) ⊕ (Int))
 | [],_=>.inl ()
 | x::xs,k=>cond (decide ((x.length:Int)>32)) (
   .inr 2) (
   cond ((x.length:Int) != ((qa[0]?.getD []).length:Int)) (
    .inr 3) (
    Sum.elim (fun _ =>
     Ql qa xs (k+1)) (fun r=>.inr r) (Qk x 0)))
def YC (qa:List (List Int)) (qb:Int):Int :=
 cond (decide ((qa.length:Int)>32)) (
  2) (
  Sum.elim (fun _ =>
   cond ((decide (qb<0))||(decide (qb>1099511627776))) (
    4) (
    0)) (fun r=>r) (Ql qa qa 0))
set_option maxHeartbeats 4000000 in
theorem Do (A_costs:Option Addr) (qe:Nat) (qa:List (List Int)) (qf:List (Sl Int)) (qb:Int) (w:World) (zk:Rd w 1 A_costs (qf.map Sl.c)) (_hc_costs:qa.length≤qe) (zg:∀ s∈qf,s.rd w 1 ic) (qm:qa=qf.map Sl.l):Calls Tryz.prog 124 #[.slice A_costs qa.length qe,.int .i64 qb] w (Ret w (.int .i64 (YC qa qb))):=by
 have vi:=zk.short;rw[← KO qm] at vi
 refine Zo (vs:=[.slice A_costs qa.length qe,.i qb]) (w:=w) Tryz.func124 rfl Tryz.ntmps124 rfl (Ze (Zc 1 [] [(4,.i 0)] {} (Zz (Ze (Zc 3 [] [(11,.b (decide ((qa.length:Int)>32)))] {} (Zb rfl (TC.cond (decide ((qa.length:Int)>32)) rfl Kr (fun h1=>?_) (fun h1=>?_))))))))
 ·exact Ze (Zc 1 [] [(4,.i 2)] {} (Zb rfl (TC.ret (Zq (TE.ret [] (.i 2) {} (by unfold YC;refine eS (fun z=>(.i z:Value)) ?_;exact Zk h1 (rfl)))))))
 ·have j4:=(Zt h1)
  refine Yg (TC.seq (Ze (Zc 3 [] [(12,.slice A_costs qa.length qe),(13,.i (qa.length:Int)),(14,.i 0)] {} (Zb rfl ?_))))
  obtain⟨R1,hR⟩:∃ R,R=Ql qa qa 0:=⟨_,rfl⟩
  refine TC.cut (S:=Unit) (fun (_:Unit)=>[(1,.i qb)]) (fun (_:Unit)=>[]) (fun (_:Unit)=>R1=.inl ()) ?_ ?_
  ·refine TC.block (XB (X:=Nat) (fun k=>[(0,.slice A_costs qa.length qe),(1,.i qb),(12,.slice A_costs qa.length qe),(13,.i (qa.length:Int)),(14,.i (k:Int))]) (fun k=>[]) (fun k=>qa.length-k) (fun k=>k≤qa.length∧R1=Ql qa (qa.drop k) k) ?_ 0 ⟨aN _,hR⟩ Kr (sb 0))
   rintro k ⟨hk,hI⟩
   refine Ze (Zc 1 [] [(15,.b (decide ((k:Int)<(qa.length:Int))))] {} (Zz (TC.cond (decide ((k:Int)<(qa.length:Int))) rfl Kr (fun h2=>?_) (fun h2=>?_))))
   ·have hlt:=ltN h2
    obtain⟨x,hx⟩:=elN hlt
    have hd:=drop_at hx
    refine Yg (TC.seq (TC.block (Ze (TL.v (sV (Instr.indexAt 114 (.slice A_costs qa.length qe) (.i (k:Int)))) 16 (.pointer (some (Ix A_costs (k*1)))) (fun w hM=>Zy (zk.sat hM) (KO qm) Kr sd sd) {} ?_))))
    have w8:=(KT (Ko zg k) (UJ qm hx)).short;rw[aF] at w8
    refine TL.v (sV (Instr.loadAt 22 (.pointer (some (Ix A_costs (k*1)))))) 17 (.slice ((qf[k]?.getD Sl.zero).A) x.length ((qf[k]?.getD Sl.zero).cap)) (fun w hM=>(by have h:=Z3 (P:=Tryz.prog) (T:=22) (off:=0) (i:=k) (.slice (qf[k]?.getD Sl.zero).A (qf[k]?.getD Sl.zero).l.length (qf[k]?.getD Sl.zero).cap) (zk.sat hM) (ZR (getD_at _ _ Sl.zero (WP qm (aK.1 hx).1))) Kr Kr;rw[(UJ qm hx)] at h;exact h)) {} ?_
    refine Zc 3 [] [(6,.slice ((qf[k]?.getD Sl.zero).A) x.length ((qf[k]?.getD Sl.zero).cap))] {} (Zz (TC.block (Ze (Zc 4 [] [(18,.b (decide ((x.length:Int)>32)))] {} (Zb rfl (TC.cond (decide ((x.length:Int)>32)) rfl Kr (fun h3=>?_) (fun h3=>?_)))))))
    ·refine Ze (Zc 1 [] [(4,.i 2)] {} (Zb rfl (TC.ret (ZY (Zq (ZY (Zq (Zq (ZY (Zq (Zq ?_)))))))))))
     exact TE.ret [] (.i 2) {} (by unfold YC;refine eS (fun z=>(.i z:Value)) ?_;exact Zd h1 (Q4 (hR.symm.trans (hI.trans (by rw[hd];exact Zk h3 (rfl)))) rfl))
    ·have wm:=(Zt h3)
     refine Ze (Zc 3 [] [(24,.i (x.length:Int)),(25,.slice A_costs qa.length qe)] {} (TL.v (sV (Instr.indexAt 114 (.slice A_costs qa.length qe) (.i 0))) 26 (.pointer (some (Ix A_costs (0*1)))) (fun w hM=>Zy (zk.sat hM) (KO qm) Kr sd sd) {} ?_))
     have p8:=(KT (Ko zg 0) (KN qm 0)).short;rw[aF] at p8
     refine TL.v (sV (Instr.loadAt 22 (.pointer (some (Ix A_costs (0*1)))))) 27 (.slice ((qf[0]?.getD Sl.zero).A) ((qa[0]?.getD []).length) ((qf[0]?.getD Sl.zero).cap)) (fun w hM=>(by have h:=Z3 (P:=Tryz.prog) (T:=22) (off:=0) (i:=0) (.slice (qf[0]?.getD Sl.zero).A (qf[0]?.getD Sl.zero).l.length (qf[0]?.getD Sl.zero).cap) (zk.sat hM) (ZR (getD_at _ _ Sl.zero (WP qm sd))) Kr Kr;rw[(KN qm 0)] at h;exact h)) {} (Zc 8 [] [(22,.b ((x.length:Int) != ((qa[0]?.getD []).length:Int)))] {} (Zb rfl (TC.cond ((x.length:Int) != ((qa[0]?.getD []).length:Int)) rfl Kr (fun h4=>?_) (fun h4=>?_))))
     ·refine Ze (Zc 1 [] [(4,.i 3)] {} (Zb rfl (TC.ret (ZY (Zq (ZY (Zq (Zq (ZY (Zq (Zq ?_)))))))))))
      exact TE.ret [] (.i 3) {} (by unfold YC;refine eS (fun z=>(.i z:Value)) ?_;exact Zd h1 (Q4 (hR.symm.trans (hI.trans (by rw[hd];exact Zd h3 (Zk h4 (rfl))))) rfl))
     ·have yl:=(Jb h4)
      refine TC.skip (Yr (YZ (Zc 3 [] [(30,.slice ((qf[k]?.getD Sl.zero).A) x.length ((qf[k]?.getD Sl.zero).cap)),(31,.i (x.length:Int)),(32,.i 0)] {} (Zb rfl ?_))))
      obtain⟨R2,x9⟩:∃ R,R=Qk x 0:=⟨_,rfl⟩
      refine TC.cut (S:=Unit) (fun (_:Unit)=>[(0,.slice A_costs qa.length qe),(1,.i qb),(12,.slice A_costs qa.length qe),(13,.i (qa.length:Int)),(14,.i (k:Int))]) (fun (_:Unit)=>[]) (fun (_:Unit)=>R2=.inl ()) ?_ ?_
      ·refine TC.block (XB (X:=Nat) (fun k_2=>[(0,.slice A_costs qa.length qe),(1,.i qb),(12,.slice A_costs qa.length qe),(13,.i (qa.length:Int)),(14,.i (k:Int)),(30,.slice ((qf[k]?.getD Sl.zero).A) x.length ((qf[k]?.getD Sl.zero).cap)),(31,.i (x.length:Int)),(32,.i (k_2:Int))]) (fun k_2=>[]) (fun k_2=>x.length-k_2) (fun k_2=>k_2≤x.length∧R2=Qk (x.drop k_2) k_2) ?_ 0 ⟨aN _,x9⟩ Kr (sb 0))
       rintro k_2 ⟨y9,xg⟩
       refine Ze (Zc 1 [] [(33,.b (decide ((k_2:Int)<(x.length:Int))))] {} (Zz (TC.cond (decide ((k_2:Int)<(x.length:Int))) rfl Kr (fun h5=>?_) (fun h5=>?_))))
       ·have zp:=ltN h5
        obtain⟨x_2,xw⟩:=elN zp
        have zr:=drop_at xw
        refine Yg (TC.seq (TC.block (Ze (TL.v (sV (Instr.indexAt 22 (.slice ((qf[k]?.getD Sl.zero).A) x.length ((qf[k]?.getD Sl.zero).cap)) (.i (k_2:Int)))) 34 (.pointer (some ((((qf[k]?.getD Sl.zero).A).getD Y4).add (k_2*1)))) (fun w hM=>Zy (KT ((Ko zg k).sat hM) (UJ qm hx)) (by simp) Kr sd sd) {} (TL.v (sV (Instr.loadAt 3 (.pointer (some ((((qf[k]?.getD Sl.zero).A).getD Y4).add (k_2*1)))))) 35 (.i x_2) (fun w hM=>Z3 (off:=0) (i:=k_2) (.i x_2) (KT ((Ko zg k).sat hM) (UJ qm hx)) (ZR xw) Kr Kr) {} (Zc 3 [] [(8,.i x_2)] {} (Zv (Zc 3 [] [(38,.b (decide (x_2<(-1))))] {} (XT 38 (decide (x_2<(-1))) 6 [] [] (fun β=>[(41,.b (β||(decide (x_2>1099511627776))))]) Kr {} {} (Zb rfl (TC.cond ((decide (x_2<(-1)))||(decide (x_2>1099511627776))) rfl Kr (fun h6=>?_) (fun h6=>?_))))))))))))
        ·refine Ze (Zc 1 [] [(4,.i 4)] {} (Zb rfl (TC.ret (ZY (Zq (Zq (ZY (Zq (ZY (Zq (Zq (ZY (Zq (Zq ?_))))))))))))))
         exact TE.ret [] (.i 4) {} (by unfold YC;refine eS (fun z=>(.i z:Value)) ?_;exact Zd h1 (Q4 (hR.symm.trans (hI.trans (by rw[hd];exact Zd h3 (Zd h4 (Q4 (x9.symm.trans (xg.trans (by rw[zr];exact Zk h6 (rfl)))) rfl))))) rfl))
        ·have yv:=(Zt (Zx h6))
         have eh:=(Zt (Z9 h6))
         exact TC.skip (Yr (Z4 (TC.region (Zc 2 [] [(32,.i (w64 ((k_2:Int)+1)))] {} (Z2 rfl (TE.rw 32 (.i (w64 ((k_2:Int)+1))) (.i ((k_2+1:Nat):Int)) Kr (ZT k_2 (by omega)) (Z7 (x:=k_2) (k_2+1) ⟨by omega,xg.trans (by rw[zr];exact Zd h6 (rfl))⟩ (mN zp) Kr (sb 0))))))))
       ·have zr:=QE h5
        refine TC.exit (Yc (Yc (Z1 ?_)))
        exact TE.cut () (xg.trans (by rw[zr];exact rfl)) Kr (sb 0)
      ·intro _ va
       exact Yr (Z4 (TC.region (Zc 2 [] [(14,.i (w64 ((k:Int)+1)))] {} (Z2 rfl (TE.rw 14 (.i (w64 ((k:Int)+1))) (.i ((k+1:Nat):Int)) Kr (ZT k (by omega)) (Z7 (x:=k) (k+1) ⟨by omega,hI.trans (by rw[hd];exact Zd h3 (Zd h4 (Q2 (x9.symm.trans va) (rfl))))⟩ (mN hlt) Kr (sb 0)))))))
   ·have hd:=QE h2
    refine TC.exit (Yc (Yc (Z1 ?_)))
    exact TE.cut () (hI.trans (by rw[hd];exact rfl)) Kr (sb 0)
  ·intro _ hJ
   refine Z4 (TC.seq (Ze (Zc 3 [] [(46,.b (decide (qb<0)))] {} (XT 46 (decide (qb<0)) 6 [] [] (fun β=>[(49,.b (β||(decide (qb>1099511627776))))]) Kr {} {} (Zb rfl (TC.cond ((decide (qb<0))||(decide (qb>1099511627776))) rfl Kr (fun h7=>?_) (fun h7=>?_)))))))
   ·exact Ze (Zc 1 [] [(4,.i 4)] {} (Zb rfl (TC.ret (Zq (TE.ret [] (.i 4) {} (by unfold YC;refine eS (fun z=>(.i z:Value)) ?_;exact Zd h1 (Q2 (hR.symm.trans hJ) (Zk h7 (rfl)))))))))
   ·exact ZI (Zc 1 [] [(4,.i 0)] {} (Zb rfl (TC.ret (TE.ret [] (.i 0) {} (by unfold YC;refine eS (fun z=>(.i z:Value)) ?_;exact Zd h1 (Q2 (hR.symm.trans hJ) (Zd h7 (rfl))))))))
def QJ (qa:List (List Int)):Int :=
 cond ((qa.length:Int)==0) (
  0) (
  ((qa[0]?.getD []).length:Int))
theorem G6 (A_costs:Option Addr) (qe:Nat) (qa:List (List Int)) (qf:List (Sl Int)) (w:World) (zk:Rd w 1 A_costs (qf.map Sl.c)) (_hc_costs:qa.length≤qe) (zg:∀ s∈qf,s.rd w 1 ic) (qm:qa=qf.map Sl.l):Calls Tryz.prog 87 #[.slice A_costs qa.length qe] w (Ret w (.int .i64 (QJ qa))):=by
 have vi:=zk.short;rw[← KO qm] at vi
 refine Zo (vs:=[.slice A_costs qa.length qe]) (w:=w) Tryz.func87 rfl Tryz.ntmps87 rfl (Ze (Zc 1 [] [(2,.i 0)] {} (Zz (Ze (Zc 3 [] [(5,.b ((qa.length:Int)==0))] {} (Zb rfl (TC.cond ((qa.length:Int)==0) rfl Kr (fun h1=>?_) (fun h1=>?_))))))))
 ·exact Ze (Zc 1 [] [(2,.i 0)] {} (Zb rfl (TC.ret (Zq (TE.ret [] (.i 0) {} (by unfold QJ;refine eS (fun z=>(.i z:Value)) ?_;exact Zk h1 (rfl)))))))
 ·have j4:=(Yh h1)
  refine ZI (Zc 1 [] [(6,.slice A_costs qa.length qe)] {} (TL.v (sV (Instr.indexAt 114 (.slice A_costs qa.length qe) (.i 0))) 7 (.pointer (some (Ix A_costs (0*1)))) (fun w hM=>Zy (zk.sat hM) (KO qm) Kr sd sd) {} ?_))
  have w8:=(KT (Ko zg 0) (KN qm 0)).short;rw[aF] at w8
  exact TL.v (sV (Instr.loadAt 22 (.pointer (some (Ix A_costs (0*1)))))) 8 (.slice ((qf[0]?.getD Sl.zero).A) ((qa[0]?.getD []).length) ((qf[0]?.getD Sl.zero).cap)) (fun w hM=>(by have h:=Z3 (P:=Tryz.prog) (T:=22) (off:=0) (i:=0) (.slice (qf[0]?.getD Sl.zero).A (qf[0]?.getD Sl.zero).l.length (qf[0]?.getD Sl.zero).cap) (zk.sat hM) (ZR (getD_at _ _ Sl.zero (WP qm sd))) Kr Kr;rw[(KN qm 0)] at h;exact h)) {} (Zc 5 [] [(2,.i ((qa[0]?.getD []).length:Int))] {} (Zb rfl (TC.ret (TE.ret [] (.i ((qa[0]?.getD []).length:Int)) {} (by unfold QJ;refine eS (fun z=>(.i z:Value)) ?_;exact Zd h1 (rfl))))))
def YT (i:Int) (k:Int) (x:Int) (x_2:Int) (x_3:List Bool) (x_4:List (List Int)):Int :=
 cond (decide (k≥x)) (
  cond ((w64 (k-x))==i) (
   x_2) (
   36028797018963968)) (
  cond ((x_3[k.toNat]?.getD false)) (
   36028797018963968) (
   cond (decide (((x_4[i.toNat]?.getD [])[k.toNat]?.getD 0)<0)) (
    36028797018963968) (
    ((x_4[i.toNat]?.getD [])[k.toNat]?.getD 0))))
theorem JO {rows:List (List Int)} {c:Int} (h:∀ r∈rows,(r.length:Int)=c) {i:Nat} (hi:i<rows.length):((rows[i]?.getD []).length:Int)=c:=by
 rw[aS hi];exact h _ (fJ hi)
theorem UP (i:Int) (k:Int) (a_x:Addr) (x:Int) (jn:Addr) (x_2:Int) (vn:Addr) (A_x_3:Option Addr) (kx:Nat) (x_3:List Bool) (y3:Addr) (A_x_4:Option Addr) (yk:Nat) (x_4:List (List Int)) (jj:List (Sl Int)) (w:World) (h_x:Rd w 1 (some a_x) [ic x]) (yu:Rd w 1 (some jn) [ic x_2]) (pj:Rd w 1 (some vn) [Sl.c (⟨A_x_3,kx,x_3⟩:Sl Bool)]) (yz:(⟨A_x_3,kx,x_3⟩:Sl Bool).rd w 1 bc) (se:Rd w 1 (some y3) [#[.slice A_x_4 x_4.length yk]]) (uo:Rd w 1 A_x_4 (jj.map Sl.c)) (_hl_x_4:x_4.length≤yk) (w9:∀ s∈jj,s.rd w 1 ic) (vc:x_4=jj.map Sl.l) (hp:(0≤i∧i<(x_4.length:Int))∧(0≤k∧k<4611686018427387904)∧(0≤x∧x<4611686018427387904)∧(x_3.length:Int)=x∧∀ r∈x_4,(r.length:Int)=x):Calls Tryz.prog 125 #[.int .i64 i,.int .i64 k,.pointer (some a_x),.pointer (some jn),.pointer (some vn),.pointer (some y3)] w (Ret w (.int .i64 (YT i k x x_2 x_3 x_4))):=by
 refine Zo (vs:=[.i i,.i k,.pointer (some a_x),.pointer (some jn),.pointer (some vn),.pointer (some y3)]) (w:=w) Tryz.func125 rfl Tryz.ntmps125 rfl (Ze (Zc 1 [] [(8,.i 0)] {} (Zz (TC.block (Ze (Zc 1 [] [(10,.i k)] {} (TL.v (sV (Instr.loadAt 3 (.pointer (some a_x)))) 11 (.i x) (fun w hM=>Z3 (off:=0) (.i x) (h_x.sat hM) (Jk _) Kr Kr) {} (Zc 4 [] [(9,.b (decide (k≥x)))] {} (Zb rfl (TC.cond (decide (k≥x)) rfl Kr (fun h1=>?_) (fun h1=>?_)))))))))))
 ·refine TC.seq (Ze (Zc 1 [] [(13,.i k)] {} (TL.v (sV (Instr.loadAt 3 (.pointer (some a_x)))) 14 (.i x) (fun w hM=>Z3 (off:=0) (.i x) (h_x.sat hM) (Jk _) Kr Kr) {} (Zc 5 [] [(17,.b ((w64 (k-x))==i))] {} (Zb rfl (TC.cond ((w64 (k-x))==i) rfl Kr (fun h2=>?_) (fun h2=>?_)))))))
  ·refine Ze (TL.v (sV (Instr.loadAt 3 (.pointer (some jn)))) 18 (.i x_2) (fun w hM=>Z3 (off:=0) (.i x_2) (yu.sat hM) (Jk _) Kr Kr) {} (Zc 2 [] [(8,.i x_2)] {} (Zb rfl (TC.ret (Zq (ZY (Zq ?_)))))))
   exact TE.ret [] (.i x_2) {} (by unfold YT;refine eS (fun z=>(.i z:Value)) ?_;exact Zk h1 (Zk h2 (rfl)))
  ·refine ZI (Zc 1 [] [(8,.i 36028797018963968)] {} (Zb rfl (TC.ret (ZY (Zq ?_)))))
   exact TE.ret [] (.i 36028797018963968) {} (by unfold YT;refine eS (fun z=>(.i z:Value)) ?_;exact Zk h1 (Zd h2 (rfl)))
 ·have j4:=(Zt h1)
  refine Ze (TL.v (sV (Instr.loadAt 119 (.pointer (some vn)))) 20 (.slice A_x_3 x_3.length kx) (fun w hM=>Z3 (off:=0) (.slice A_x_3 x_3.length kx) (pj.sat hM) (Jk _) Kr Kr) {} (Zc 2 [] [(21,.i k)] {} (TL.v (sV (Instr.indexAt 119 (.slice A_x_3 x_3.length kx) (.i k))) 22 (.pointer (some (Ix A_x_3 (k.toNat*1)))) (fun w hM=>Zy (yz.rd.sat hM) (by simp) Kr (by (try have kr_:=JO hp.2.2.2.2 (i:=i.toNat) (by omega));exact sd) (by (try have kr_:=JO hp.2.2.2.2 (i:=i.toNat) (by omega));exact sd)) {} (TL.v (sV (Instr.loadAt 4 (.pointer (some (Ix A_x_3 (k.toNat*1)))))) 23 (.b ((x_3[k.toNat]?.getD false))) (fun w hM=>Z3 (off:=0) (i:=k.toNat) (.b ((x_3[k.toNat]?.getD false))) (yz.rd.sat hM) (ZR (getD_at _ _ false (by (try have kr_:=JO hp.2.2.2.2 (i:=i.toNat) (by omega));exact sd))) Kr Kr) {} (Zc 5 [] [(24,.b ((x_3[k.toNat]?.getD false)))] {} (Yo 24 ((x_3[k.toNat]?.getD false)) Kr (fun h3=>?_) (fun h3=>?_)))))))
  ·refine Zc 15 [] [(19,.b true)] {} (Zb rfl (Xo rfl Kr (Ze (Zc 1 [] [(8,.i 36028797018963968)] {} (Zb rfl (TC.ret (ZY (Zq ?_))))))))
   exact TE.ret [] (.i 36028797018963968) {} (by unfold YT;refine eS (fun z=>(.i z:Value)) ?_;exact Zd h1 (Zk h3 (rfl)))
  ·refine TL.v (sV (Instr.loadAt 114 (.pointer (some y3)))) 25 (.slice A_x_4 x_4.length yk) (fun w hM=>(by have h:=Z3 (P:=Tryz.prog) (T:=114) (off:=0) (i:=0) (A:=some y3) (.slice A_x_4 x_4.length yk) (se.sat hM) (Jk _) Kr Kr;exact h)) {} (Zc 7 [] [(26,.i i)] {} (TL.v (sV (Instr.indexAt 114 (.slice A_x_4 x_4.length yk) (.i i))) 27 (.pointer (some (Ix A_x_4 (i.toNat*1)))) (fun w hM=>Zy (uo.sat hM) (KO vc) Kr (by (try have kr_:=JO hp.2.2.2.2 (i:=i.toNat) (by omega));exact sd) (by (try have kr_:=JO hp.2.2.2.2 (i:=i.toNat) (by omega));exact sd)) {} ?_))
   have w8:=(KT (Ko w9 i.toNat) (KN vc i.toNat)).short;rw[aF] at w8
   refine TL.v (sV (Instr.loadAt 22 (.pointer (some (Ix A_x_4 (i.toNat*1)))))) 28 (.slice ((jj[i.toNat]?.getD Sl.zero).A) ((x_4[i.toNat]?.getD []).length) ((jj[i.toNat]?.getD Sl.zero).cap)) (fun w hM=>(by have h:=Z3 (P:=Tryz.prog) (T:=22) (off:=0) (i:=i.toNat) (.slice (jj[i.toNat]?.getD Sl.zero).A (jj[i.toNat]?.getD Sl.zero).l.length (jj[i.toNat]?.getD Sl.zero).cap) (uo.sat hM) (ZR (getD_at _ _ Sl.zero (WP vc (by (try have kr_:=JO hp.2.2.2.2 (i:=i.toNat) (by omega));exact sd)))) Kr Kr;rw[(KN vc i.toNat)] at h;exact h)) {} (Zc 10 [] [(29,.i k)] {} (TL.v (sV (Instr.indexAt 22 (.slice ((jj[i.toNat]?.getD Sl.zero).A) ((x_4[i.toNat]?.getD []).length) ((jj[i.toNat]?.getD Sl.zero).cap)) (.i k))) 30 (.pointer (some ((((jj[i.toNat]?.getD Sl.zero).A).getD Y4).add (k.toNat*1)))) (fun w hM=>Zy (KT ((Ko w9 i.toNat).sat hM) (KN vc i.toNat)) (by simp) Kr (by (try have kr_:=JO hp.2.2.2.2 (i:=i.toNat) (by omega));exact sd) (by (try have kr_:=JO hp.2.2.2.2 (i:=i.toNat) (by omega));exact sd)) {} (TL.v (sV (Instr.loadAt 3 (.pointer (some ((((jj[i.toNat]?.getD Sl.zero).A).getD Y4).add (k.toNat*1)))))) 31 (.i ((x_4[i.toNat]?.getD [])[k.toNat]?.getD 0)) (fun w hM=>Z3 (off:=0) (i:=k.toNat) (.i ((x_4[i.toNat]?.getD [])[k.toNat]?.getD 0)) (KT ((Ko w9 i.toNat).sat hM) (KN vc i.toNat)) (ZR (getD_at _ _ 0 (by (try have kr_:=JO hp.2.2.2.2 (i:=i.toNat) (by omega));exact sd))) Kr Kr) {} (Zc 15 [] [(19,.b (decide (((x_4[i.toNat]?.getD [])[k.toNat]?.getD 0)<0)))] {} (Zb rfl (TC.cond (decide (((x_4[i.toNat]?.getD [])[k.toNat]?.getD 0)<0)) rfl Kr (fun h4=>?_) (fun h4=>?_)))))))
   ·refine Ze (Zc 1 [] [(8,.i 36028797018963968)] {} (Zb rfl (TC.ret (ZY (Zq ?_)))))
    exact TE.ret [] (.i 36028797018963968) {} (by unfold YT;refine eS (fun z=>(.i z:Value)) ?_;exact Zd h1 (Zd h3 (Zk h4 (rfl))))
   ·have yl:=(Zt h4)
    refine TC.skip (Yr (YZ (TL.v (sV (Instr.loadAt 114 (.pointer (some y3)))) 34 (.slice A_x_4 x_4.length yk) (fun w hM=>(by have h:=Z3 (P:=Tryz.prog) (T:=114) (off:=0) (i:=0) (A:=some y3) (.slice A_x_4 x_4.length yk) (se.sat hM) (Jk _) Kr Kr;exact h)) {} (Zc 2 [] [(35,.i i)] {} (TL.v (sV (Instr.indexAt 114 (.slice A_x_4 x_4.length yk) (.i i))) 36 (.pointer (some (Ix A_x_4 (i.toNat*1)))) (fun w hM=>Zy (uo.sat hM) (KO vc) Kr (by (try have kr_:=JO hp.2.2.2.2 (i:=i.toNat) (by omega));exact sd) (by (try have kr_:=JO hp.2.2.2.2 (i:=i.toNat) (by omega));exact sd)) {} ?_)))))
    have p8:=(KT (Ko w9 i.toNat) (KN vc i.toNat)).short;rw[aF] at p8
    exact TL.v (sV (Instr.loadAt 22 (.pointer (some (Ix A_x_4 (i.toNat*1)))))) 37 (.slice ((jj[i.toNat]?.getD Sl.zero).A) ((x_4[i.toNat]?.getD []).length) ((jj[i.toNat]?.getD Sl.zero).cap)) (fun w hM=>(by have h:=Z3 (P:=Tryz.prog) (T:=22) (off:=0) (i:=i.toNat) (.slice (jj[i.toNat]?.getD Sl.zero).A (jj[i.toNat]?.getD Sl.zero).l.length (jj[i.toNat]?.getD Sl.zero).cap) (uo.sat hM) (ZR (getD_at _ _ Sl.zero (WP vc (by (try have kr_:=JO hp.2.2.2.2 (i:=i.toNat) (by omega));exact sd)))) Kr Kr;rw[(KN vc i.toNat)] at h;exact h)) {} (Zc 5 [] [(38,.i k)] {} (TL.v (sV (Instr.indexAt 22 (.slice ((jj[i.toNat]?.getD Sl.zero).A) ((x_4[i.toNat]?.getD []).length) ((jj[i.toNat]?.getD Sl.zero).cap)) (.i k))) 39 (.pointer (some ((((jj[i.toNat]?.getD Sl.zero).A).getD Y4).add (k.toNat*1)))) (fun w hM=>Zy (KT ((Ko w9 i.toNat).sat hM) (KN vc i.toNat)) (by simp) Kr (by (try have kr_:=JO hp.2.2.2.2 (i:=i.toNat) (by omega));exact sd) (by (try have kr_:=JO hp.2.2.2.2 (i:=i.toNat) (by omega));exact sd)) {} (TL.v (sV (Instr.loadAt 3 (.pointer (some ((((jj[i.toNat]?.getD Sl.zero).A).getD Y4).add (k.toNat*1)))))) 40 (.i ((x_4[i.toNat]?.getD [])[k.toNat]?.getD 0)) (fun w hM=>Z3 (off:=0) (i:=k.toNat) (.i ((x_4[i.toNat]?.getD [])[k.toNat]?.getD 0)) (KT ((Ko w9 i.toNat).sat hM) (KN vc i.toNat)) (ZR (getD_at _ _ 0 (by (try have kr_:=JO hp.2.2.2.2 (i:=i.toNat) (by omega));exact sd))) Kr Kr) {} (Zc 8 [] [(8,.i ((x_4[i.toNat]?.getD [])[k.toNat]?.getD 0))] {} (Zb rfl (TC.ret (TE.ret [] (.i ((x_4[i.toNat]?.getD [])[k.toNat]?.getD 0)) {} (by unfold YT;refine eS (fun z=>(.i z:Value)) ?_;exact Zd h1 (Zd h3 (Zd h4 (rfl)))))))))))
end Go.Sky
end
section
namespace Go.Sky
open Go Go.Eng Go.Proofs
def Xu:Nat→Nat→(List Int)→(List Int)
 | 0,_,low=>low
 | m+1,k_2,low=>Xu m (k_2+1) (low.set k_2 1152921504606846976)
def Xd (qa:List (List Int)) (qb:Int) (from_:Int) (taken:List Bool) (k:Nat) (row:List Int) (at_:Int) (u_3:List Int) (v_3:List Int) (used:List Bool):Nat→Nat→Int→Int→(List Int)→(List Int)→(Int×Int×List Int×List Int)
  | 0,_,delta,next,xj,zq=>(delta,next,xj,zq)
  | m+1,k_3,delta,next,xj,zq=>cond (((used.set at_.toNat true)[(1+(k_3:Int)).toNat]?.getD false)) (
      Xd qa qb from_ taken k row at_ u_3 v_3 used m (k_3+1) delta next xj zq) (
      let r3:=YT (w64 (((row.set 0 (1+(k:Int)))[at_.toNat]?.getD 0)-1)) (w64 ((1+(k_3:Int))-1)) (((qa.drop from_.toNat)[0]?.getD []).length:Int) qb taken (qa.drop from_.toNat)
      Xq (cond (decide ((w64 ((w64 (r3-(u_3[((row.set 0 (1+(k:Int)))[at_.toNat]?.getD 0).toNat]?.getD 0)))-(v_3[(1+(k_3:Int)).toNat]?.getD 0)))<(zq[(1+(k_3:Int)).toNat]?.getD 0))) (
                        ((xj.set ((1+(k_3:Int)).toNat) at_),(zq.set ((1+(k_3:Int)).toNat) (w64 ((w64 (r3-(u_3[((row.set 0 (1+(k:Int)))[at_.toNat]?.getD 0).toNat]?.getD 0)))-(v_3[(1+(k_3:Int)).toNat]?.getD 0)))))) (
                        (xj,zq))) (fun (ko,x7) =>
        cond (decide ((x7[(1+(k_3:Int)).toNat]?.getD 0)<delta)) (
          Xd qa qb from_ taken k row at_ u_3 v_3 used m (k_3+1) (x7[(1+(k_3:Int)).toNat]?.getD 0) (1+(k_3:Int)) ko x7) (
          Xd qa qb from_ taken k row at_ u_3 v_3 used m (k_3+1) delta next ko x7)))
def X9 (k:Nat) (row:List Int) (qy:Int):List Bool→Nat→(List Int)→(List Int)→(List Int)→(List Int×List Int×List Int)
 | [],_,u_5,v_5,zt=>(u_5,v_5,zt)
 | x::xs,k_4,u_5,v_5,zt=>cond x (
   X9 k row qy xs (k_4+1) (u_5.set (((row.set 0 (1+(k:Int)))[k_4]?.getD 0).toNat) (w64 ((u_5[((row.set 0 (1+(k:Int)))[k_4]?.getD 0).toNat]?.getD 0)+qy))) (v_5.set k_4 (w64 ((v_5[k_4]?.getD 0)-qy))) zt) (
   X9 k row qy xs (k_4+1) u_5 v_5 (zt.set k_4 (w64 ((zt[k_4]?.getD 0)-qy))))
def Q9 (qa:List (List Int)) (qb:Int) (from_:Int) (taken:List Bool) (r2:Int) (k:Nat) (row:List Int):Nat→Int→(List Int)→(List Int)→(List Int)→(List Int)→(List Bool)→Option (Int×List Int×List Int×List Int×List Int×List Bool)
 | 0,_,_,_,_,_,_=>none
 | m+1,at_,u_3,v_3,ve,vf,used=>Xq (Xd qa qb from_ taken k row at_ u_3 v_3 used r2.toNat 0 1152921504606846976 0 ve vf) (fun (qy,zc,vg,vv) =>
   Xq (X9 k row qy (used.set at_.toNat true) 0 u_3 v_3 vv) (fun (u_6,v_6,kp) =>
    cond (((row.set 0 (1+(k:Int)))[zc.toNat]?.getD 0)==0) (
     some ((zc,u_6,v_6,vg,kp,(used.set at_.toNat true)))) (
     Q9 qa qb from_ taken r2 k row m zc u_6 v_6 vg kp (used.set at_.toNat true))))
def XR (zi:List Int):Nat→Int→(List Int)→Option (List Int)
 | 0,_,_=>none
 | m+1,q9,xd=>cond (q9 != 0) (
   XR zi m (zi[q9.toNat]?.getD 0) (xd.set q9.toNat (xd[(zi[q9.toNat]?.getD 0).toNat]?.getD 0))) (
   some (xd))
def Jw (qa:List (List Int)) (qb:Int) (from_:Int) (taken:List Bool) (r2:Int):Nat→Nat→(List Int)→(List Int)→(List Int)→(List Int)→(List Int×List Int×List Int×List Int)
 | 0,_,u,v,row,way=>(u,v,row,way)
 | m+1,k,u,v,row,way=>Xq (Xu ((w64 (r2+1)).toNat) 0 (List.replicate ((w64 (r2+1)).toNat) (0:Int))) (fun je =>
   Xq ((Q9 qa qb from_ taken r2 k row 100 0 u v way je (List.replicate ((w64 (r2+1)).toNat) false)).getD default) (fun (wh,u_4,v_4,zi,_,_) =>
    Xq ((XR zi 100 wh (row.set 0 (1+(k:Int)))).getD default) (fun wi =>
     Jw qa qb from_ taken r2 m (k+1) u_4 v_4 wi zi)))
def QY (qa:List (List Int)) (qb:Int) (from_:Int) (taken:List Bool) (qx:List Int):Nat→Nat→Int→Int
 | 0,_,kt=>kt
 | m+1,k_5,kt=>cond (decide ((qx[(1+(k_5:Int)).toNat]?.getD 0)>0)) (
   let r4:=YT (w64 ((qx[(1+(k_5:Int)).toNat]?.getD 0)-1)) (w64 ((1+(k_5:Int))-1)) (((qa.drop from_.toNat)[0]?.getD []).length:Int) qb taken (qa.drop from_.toNat)
   QY qa qb from_ taken qx m (k_5+1) (w64 (kt+r4))) (
   QY qa qb from_ taken qx m (k_5+1) kt)
def ZM (qa:List (List Int)) (qb:Int) (from_:Int) (taken:List Bool):Int :=
 let r1:=((qa.drop from_.toNat).length:Int)
 cond (r1==0) (
  0) (
  let r2:=w64 ((((qa.drop from_.toNat)[0]?.getD []).length:Int)+r1)
  Xq (Jw qa qb from_ taken r2 r1.toNat 0 (List.replicate ((w64 (r1+1)).toNat) (0:Int)) (List.replicate ((w64 (r2+1)).toNat) (0:Int)) (List.replicate ((w64 (r2+1)).toNat) (0:Int)) (List.replicate ((w64 (r2+1)).toNat) (0:Int))) (fun (_,_,qx,_) =>
   Xq (QY qa qb from_ taken qx r2.toNat 0 0) (fun kj =>
    kj)))
end Go.Sky
end
