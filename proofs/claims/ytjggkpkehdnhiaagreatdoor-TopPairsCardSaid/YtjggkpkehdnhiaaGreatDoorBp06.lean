/- Lemmas toward the given statement (part 6 of 20): Rb Wb Va Vb. Each theorem states its own conditions; nothing is assumed beyond them. -/
import Derived.Test.YtjggkpkehdnhiaaGreatDoorBp05
import Derived.Test.YtjggkpkehdnhiaaGreatDoorBp03
import Derived.Test.YtjggkpkehdnhiaaGreatDoorRows
import Derived.Test.YtjggkpkehdnhiaaGreatDoorBp02
set_option maxRecDepth 100000
section
namespace Go.Sky
open Go Go.Eng Go.Proofs
open Go.Srt
theorem PQ (A_x:Option Addr) (c_x:Nat) (x:List Zj) (w:World) (hM:Sat ⟨w,XR [.inr (Own A_x c_x 42 6 (x.map Zj.c))]⟩ [.inr (Own A_x c_x 42 6 (x.map Zj.c))] w):Calls Tryz.prog 84 #[.slice A_x x.length c_x,.func (.func 85) #[] #[]] w (JH (Γ:=(List Zj)) ⟨w,XR [.inr (Own A_x c_x 42 6 (x.map Zj.c))]⟩ (fun _=>.tuple #[]) (fun g=>[.inr (Qm (g.length=x.length∧g=Gq x)),.inr (Own A_x c_x 42 6 (g.map Zj.c))])):=by
 exact RL A_x c_x _ x w hM
def K2:List Zj→Nat→((Unit) ⊕ ((List Zj)×Int))
 | [],_=>.inl ()
 | x::xs,k=>let r1:=ZG x
  cond (r1 != 0) (
   .inr ([],r1)) (
   K2 xs (k+1))
def Qc (qi:Int):List Zj→Nat→(List Zj)→(List Zj)
 | [],_,out=>out
 | x_2::xs,k_2,out=>let r5:=XL out x_2 qi
  cond (!r5) (
   Qc qi xs (k_2+1) (out++([x_2]))) (
   Qc qi xs (k_2+1) out)
def YP (l:List Zj) (qi:Int):List Zj×Int :=
 cond (decide ((l.length:Int)>128)) (
  ([],2)) (
  Sum.elim (fun _ =>
   let r2:=Vd qi
   cond r2 (
    ([],4)) (
    let r3:=YN l
    let r4:=Gq r3
    YB (Qc qi r4 0 ([]:List Zj)) (fun qk =>
     (qk,0)))) (fun r=>r) (K2 l 0))
set_option maxHeartbeats 4000000 in
theorem N8 (A_l:Option Addr) (c_l:Nat) (l:List Zj) (qi:Int) (w:World) (h_l:Rd w 6 A_l (l.map Zj.c)) (km:l.length≤c_l):Calls Tryz.prog 37 #[.slice A_l l.length c_l,.int .i64 qi] w (JH (Γ:=(Option Addr×Nat)) (cx w) (fun g=>.tuple #[.slice g.1 ((YP l qi).1.length) g.2,.int .i64 ((YP l qi).2)]) (fun g=>[.inr (Own g.1 g.2 42 6 (((YP l qi).1).map Zj.c))])):=by
 have s_l:=h_l.short;rw[aD] at s_l
 refine Zp (vs:=[.slice A_l l.length c_l,.i qi]) (w:=w) Tryz.func37 rfl Tryz.ntmps37 rfl (Zf (ZA 3 (fun b1=>.p0 b1) (fun b1=>Bk b1 #[.i qi] 3) (fun b1=>{}) (fun b1=>Zc 3 [] [(4,.slice none 0 0),(5,.i 0)] {} (Z1 (Zf (Zc 3 [] [(15,.b (decide ((l.length:Int)>128)))] {} (Zb rfl (TC.cond (decide ((l.length:Int)>128)) rfl Kr (fun h1=>?_) (fun h1=>?_)))))))))
 ·refine Zf (Zc 2 [] [(4,.slice none 0 0),(5,.i 2)] {} (Zb rfl (TC.ret (Zo ?_))))
  have e:YP l qi=([],2):=by unfold YP;exact Zm h1 (rfl)
  refine Yi [Ow none 0 42 6 (([]:List Zj).map Zj.c),Bk b1 #[.i qi] 3] (fun _ hM=>hM.emptyrow none 42 6) ?_
  rw[e]
  exact ZO (.inl rfl) (none,0) [] (.tuple #[.slice none 0 0,.i 2]) {} rfl (fun _ hM=>hM.sub (sb 1))
 ·have vm:=(Zv h1)
  refine Yg (TC.seq (Zf (Zc 3 [] [(16,.slice A_l l.length c_l),(17,.i (l.length:Int)),(18,.i 0)] {} (Zb rfl ?_))))
  obtain⟨R2,hR⟩:∃ R,R=K2 l 0:=⟨_,rfl⟩
  refine TC.cut (S:=Unit) (fun (_:Unit)=>[(0,.slice A_l l.length c_l),(3,.p0 b1)]) (fun (_:Unit)=>[Bk b1 #[.i qi] 3]) (fun (_:Unit)=>R2=.inl ()) ?_ ?_
  ·refine TC.block (Xp (X:=Nat) (fun k=>[(0,.slice A_l l.length c_l),(3,.p0 b1),(16,.slice A_l l.length c_l),(17,.i (l.length:Int)),(18,.i (k:Int))]) (fun k=>[Bk b1 #[.i qi] 3]) (fun k=>l.length-k) (fun k=>k≤l.length∧R2=K2 (l.drop k) k) ?_ 0 ⟨aP _,hR⟩ Kr (sb 1))
   rintro k ⟨hk,hI⟩
   refine Zf (Zc 1 [] [(19,.b (decide ((k:Int)<(l.length:Int))))] {} (Z1 (TC.cond (decide ((k:Int)<(l.length:Int))) rfl Kr (fun h2=>?_) (fun h2=>?_))))
   ·have hlt:=ltN h2
    obtain⟨x,hx⟩:=elN hlt
    have hd:=drop_at hx
    refine Yg (TC.seq (TC.block (Zf (TL.v (sV (Instr.indexAt 52 (.slice A_l l.length c_l) (.i (k:Int)))) 20 (.pointer (some (Ix A_l (k*6)))) (fun w hM=>Zr (h_l.sat hM) (by simp) Kr (by (try have e3_:r3.length=l.length:=(by rw[← hr3];rfl));exact sd) (by (try have e3_:r3.length=l.length:=(by rw[← hr3];rfl));exact sd)) {} (TL.v (sV (Instr.loadAt 42 (.pointer (some (Ix A_l (k*6)))))) 21 (Zj.v x) (fun w hM=>Z9 (n:=6) (off:=0) (i:=k) (Zj.v x) (h_l.sat hM) (Z6 hx) Kr Kr Kr) {} (ZA 7 (fun b2=>.p0 b2) (fun b2=>Bk b2 (Zj.c Zj.zero) 42) (fun b2=>{}) (fun b2=>Yp 0 (Bk b2 (Zj.c x) 42) (fun _=>{}) (Zz (Zc 1 [0] [(22,Zj.v x)] {} (TL.c 23 (ZG x) (fun r1=>.i r1) (fun w _=>XX x w) {} (fun r1 hr1=>Zc 3 [] [(8,.i r1)] {} (Zz (Zc 2 [] [(25,.b (r1 != 0))] {} (Zb rfl (TC.cond (r1 != 0) rfl Kr (fun h3=>?_) (fun h3=>?_))))))))))))))))
    ·refine Zf (Zc 3 [] [(4,.slice none 0 0),(5,.i r1)] {} (Zb rfl (TC.ret (ZL (Zo (Zo (ZL (Zo (Zo ?_)))))))))
     have e:YP l qi=([],r1):=by subst hr1;unfold YP;exact Ze h1 (Xh (hR.symm.trans (hI.trans (by rw[hd];exact Zm h3 (rfl)))) rfl)
     refine Yi [Ow none 0 42 6 (([]:List Zj).map Zj.c),Bk b2 (Zj.c x) 42,Bk b1 #[.i qi] 3] (fun _ hM=>hM.emptyrow none 42 6) ?_
     rw[e]
     exact ZO (.inl rfl) (none,0) [] (.tuple #[.slice none 0 0,.i r1]) {} rfl (fun _ hM=>hM.sub (sb 1))
    ·have y2:=(QA h3)
     exact TC.skip (ZY (Z3 (TC.region (Zc 2 [] [(18,.i (w64 ((k:Int)+1)))] {} (Zw rfl (TE.rw 18 (.i (w64 ((k:Int)+1))) (.i ((k+1:Nat):Int)) Kr (ZD k (by (try have e3_:r3.length=l.length:=(by rw[← hr3];rfl));omega)) (Z4 (x:=k) (k+1) ⟨by omega,hI.trans (by subst hr1;rw[hd];exact Ze h3 (rfl))⟩ (mN hlt) Kr (sb 2))))))))
   ·have hd:=Qb h2
    refine TC.exit (ZT (ZT (Z0 ?_)))
    exact TE.cut () (hI.trans (by rw[hd];exact rfl)) Kr (sb 1)
  ·intro _ hJ
   refine Z3 (TC.seq (Zf (Zc 1 [0] [(28,.i qi)] {} (TL.c 29 (Vd qi) (fun r2=>.b r2) (fun w _=>WP qi w) {} (fun r2 hr2=>Zb rfl (TC.cond r2 rfl Kr (fun h4=>?_) (fun h4=>?_)))))))
   ·refine Zf (Zc 2 [] [(4,.slice none 0 0),(5,.i 4)] {} (Zb rfl (TC.ret (Zo ?_))))
    have e:YP l qi=([],4):=by subst hr2;unfold YP;exact Ze h1 (Q3 (hR.symm.trans hJ) (Zm h4 (rfl)))
    refine Yi [Ow none 0 42 6 (([]:List Zj).map Zj.c),Bk b1 #[.i qi] 3] (fun _ hM=>hM.emptyrow none 42 6) ?_
    rw[e]
    exact ZO (.inl rfl) (none,0) [] (.tuple #[.slice none 0 0,.i 4]) {} rfl (fun _ hM=>hM.sub (sb 1))
   ·refine Yc (Zc 1 [] [(30,.slice A_l l.length c_l)] {} (VI (Γ:=AN) 31 (YN l) (fun r3 g=>.slice g.1 r3.length g.2) (fun r3 g=>[Ow g.1 g.2 42 6 (r3.map Zj.c)]) (fun w hM=>Vl A_l c_l l w (h_l.sat hM) km (by (try have e3_:r3.length=l.length:=(by rw[← hr3];rfl));exact sg)) {} (fun r3 hr3=>?_)))
    rintro⟨A,c⟩
    refine Y3 (fun w hM=>hM.short_at 0 rfl) (fun sf=>Zc 3 [] [(9,.slice A r3.length c)] {} (Zz (Zc 1 [] [(32,.slice A r3.length c)] {} (Qy (Γ:=(List Zj)) (fun _=>.tuple #[]) (fun g=>[.inr (Qm (g.length=r3.length∧g=Gq r3)),Ow A c 42 6 (g.map Zj.c)]) [Ow A c 42 6 (r3.map Zj.c)] [Bk b1 #[.i qi] 3] (some 33) (fun _=>[(3,.p0 b1),(9,.slice A r3.length c)]) (fun w hM=>PQ A c r3 w hM.pass) Kr (fun g=>Kr) ?_))))
    rintro r4
    refine Xm [.inr (Qm (r4.length=r3.length∧r4=Gq r3)),Ow A c 42 6 (r4.map Zj.c),Bk b1 #[.i qi] 3] (fun _ hM=>hM) (Y3 (fun w hM=>hM.fact_at 0 rfl) (fun pj=>X2 [Ow A c 42 6 (r4.map Zj.c),Bk b1 #[.i qi] 3] (.cons _ (aB _)) ?_))
    have cz:r4.length=r3.length:=pj.1
    refine TL.rw 9 (.slice A r3.length c) (.slice A r4.length c) Kr (by rw[cz]) ?_
    have hr4:Gq r3=r4:=(pj.2).symm
    refine Zz (Zc 1 [] [(10,.slice none 0 0)] {} (Z1 (Zf (Zc 3 [] [(34,.slice A r4.length c),(35,.i (r4.length:Int)),(36,.i 0)] {} (Zb rfl (Q0 [Ow none 0 42 6 (([]:List Zj).map Zj.c),Ow A c 42 6 (r4.map Zj.c),Bk b1 #[.i qi] 3] (fun _ hM=>hM.emptyrow none 42 6) ?_))))))
    obtain⟨R6,xo⟩:∃ R,R=Qc qi r4 0 ([]:List Zj):=⟨_,rfl⟩
    refine TC.cut (S:=(List Zj)×(Option Addr)×Nat) (fun (qk,A_out_2,qe)=>[(10,.slice A_out_2 qk.length qe)]) (fun (qk,A_out_2,qe)=>[Ow A_out_2 qe 42 6 (qk.map Zj.c)]) (fun (qk,A_out_2,qe)=>R6=qk∧qk.length≤r4.length) ?_ ?_
    ·refine TC.block (Xp (X:=Nat×(List Zj)×(Option Addr)×Nat) (fun (k_2,out,A_out,qh)=>[(3,.p0 b1),(10,.slice A_out out.length qh),(34,.slice A r4.length c),(35,.i (r4.length:Int)),(36,.i (k_2:Int))]) (fun (k_2,out,A_out,qh)=>[Ow A_out qh 42 6 (out.map Zj.c),Ow A c 42 6 (r4.map Zj.c),Bk b1 #[.i qi] 3]) (fun (k_2,out,A_out,qh)=>r4.length-k_2) (fun (k_2,out,A_out,qh)=>k_2≤r4.length∧R6=Qc qi (r4.drop k_2) k_2 out∧out.length≤k_2) ?_ (0,([]:List Zj),none,0) ⟨aP _,xo,sz⟩ Kr (sb 7))
     rintro⟨k_2,out,A_out,qh⟩ ⟨y4,xg,kn⟩
     refine Zf (Zc 1 [] [(37,.b (decide ((k_2:Int)<(r4.length:Int))))] {} (Z1 (TC.cond (decide ((k_2:Int)<(r4.length:Int))) rfl Kr (fun h5=>?_) (fun h5=>?_))))
     ·have zk:=ltN h5
      obtain⟨x_2,jf⟩:=elN zk
      have zr:=drop_at jf
      refine Yg (TC.seq (TC.block (Zf (TL.v (sV (Instr.indexAt 52 (.slice A r4.length c) (.i (k_2:Int)))) 38 (.pointer (some (Ix A (k_2*6)))) (fun w hM=>Zr (hM.rd_at 1 rfl) (by simp) Kr (by (try have e3_:r3.length=l.length:=(by rw[← hr3];rfl));exact sd) (by (try have e3_:r3.length=l.length:=(by rw[← hr3];rfl));exact sd)) {} (TL.v (sV (Instr.loadAt 42 (.pointer (some (Ix A (k_2*6)))))) 39 (Zj.v x_2) (fun w hM=>Z9 (n:=6) (off:=0) (i:=k_2) (Zj.v x_2) (hM.rd_at 1 rfl) (Z6 jf) Kr Kr Kr) {} (ZA 12 (fun b3=>.p0 b3) (fun b3=>Bk b3 (Zj.c Zj.zero) 42) (fun b3=>{}) (fun b3=>Yp 0 (Bk b3 (Zj.c x_2) 42) (fun _=>{}) (Zz (Zc 2 [] [(40,.slice A_out out.length qh),(41,.func (.func 87) #[] #[.p0 b3,.p0 b1])] {} (TL.c 42 (XL out x_2 qi) (fun r5=>.b r5) (fun w hM=>Wa A_out qh out ⟨b3,0,none⟩ x_2 ⟨b1,0,none⟩ qi w (hM.rd_at 1 rfl) (hM.le_at 1 rfl) (Rd.lit hM 0 _ rfl Kr Kr Kr) (Rd.lit hM 3 _ rfl Kr Kr Kr)) {} (fun r5 hr5=>Zc 4 [] [(43,.b (!r5))] {} (Zb rfl (TC.cond (!r5) rfl Kr (fun h6=>?_) (fun h6=>?_))))))))))))))
      ·refine TC.region (Zc 2 [0] [(44,.slice A_out out.length qh),(45,Zj.v x_2)] {} (ZA 46 (fun b4=>.slice (Pa b4) 1 1) (fun b4=>Bk b4 (Zj.c x_2) 42) (fun b4=>{}) (fun b4=>TL.os (Γ:=AN) (sV (Builtin.append_ #[52,52] 52 #[.slice A_out out.length qh,.slice (Pa b4) 1 1])) 47 (fun g=>.slice g.1 (out++([x_2])).length g.2) 2 (fun g=>Ow g.1 g.2 42 6 ((out++([x_2])).map Zj.c)) (QE (bytes:=48) 52 2 ([x_2]) Kr rfl rfl Zj.one rfl (fun w hM=>(Rd.lit hM 0 _ rfl Kr Kr Kr)) rfl (by (try have e3_:r3.length=l.length:=(by rw[← hr3];rfl));exact sa)) {} ?_)))
       rintro⟨A_2,c_2⟩
       exact Zc 5 [] [(10,.slice A_2 ((out++([x_2])).length) c_2)] {} (Zw rfl (ZY (Z3 (TC.region (Zc 2 [] [(36,.i (w64 ((k_2:Int)+1)))] {} (Zw rfl (TE.rw 36 (.i (w64 ((k_2:Int)+1))) (.i ((k_2+1:Nat):Int)) Kr (ZD k_2 (by (try have e3_:r3.length=l.length:=(by rw[← hr3];rfl));omega)) (Z4 (x:=(k_2,out,A_out,qh)) (k_2+1,(out++([x_2])),A_2,c_2) ⟨by omega,xg.trans (by subst hr2 hr3 hr4 hr5;rw[zr];exact Zm h6 (rfl)),(by (try have e3_:r3.length=l.length:=(by rw[← hr3];rfl));exact sl)⟩ (mN zk) Kr (sb 28)))))))))
      ·exact TC.skip (ZY (Z3 (TC.region (Zc 2 [] [(36,.i (w64 ((k_2:Int)+1)))] {} (Zw rfl (TE.rw 36 (.i (w64 ((k_2:Int)+1))) (.i ((k_2+1:Nat):Int)) Kr (ZD k_2 (by (try have e3_:r3.length=l.length:=(by rw[← hr3];rfl));omega)) (Z4 (x:=(k_2,out,A_out,qh)) (k_2+1,out,A_out,qh) ⟨by omega,xg.trans (by subst hr2 hr3 hr4 hr5;rw[zr];exact Ze h6 (rfl)),(by (try have e3_:r3.length=l.length:=(by rw[← hr3];rfl));exact sl)⟩ (mN zk) Kr (sb 14))))))))
     ·have zr:=Qb h5
      refine TC.exit (ZT (ZT (Z0 ?_)))
      exact TE.cut (out,A_out,qh) (⟨xg.trans (by subst hr2 hr3 hr4;rw[zr];exact rfl),(by (try have e3_:r3.length=l.length:=(by rw[← hr3];rfl));exact sl)⟩) Kr (sb 1)
    ·rintro⟨qk,A_out_2,qe⟩ ⟨jv,jw⟩
     refine YC (Zc 3 [] [(4,.slice A_out_2 qk.length qe),(5,.i 0)] {} (Zb rfl (TC.ret ?_)))
     have e:YP l qi=(qk,0):=by subst hr2 hr3 hr4;unfold YP;exact Ze h1 (Q3 (hR.symm.trans hJ) (Ze h4 (Yr (xo.symm.trans jv) (rfl))))
     rw[e]
     exact ZO (.inl rfl) (A_out_2,qe) [] (.tuple #[.slice A_out_2 qk.length qe,.i 0]) {} rfl (fun _ hM=>hM.sub (sb 1))
end Go.Sky
end
section
namespace Go.Sky
open Go Go.Eng Go.Proofs
def X9 (t:Track) (s:Zj) (qi:Int):Bool×Int :=
 let r1:=Yt t
 cond (r1 != 0) (
  (false,r1)) (
  let r2:=ZG s
  cond (r2 != 0) (
   (false,r2)) (
   cond ((decide (qi<0))||(decide (qi>60000))) (
    (false,4)) (
    cond (t.Time != s.Time) (
     (false,12)) (
     let r3:=ZX t.At s.At (w64 (t.Radius+s.Error))
     cond (r3&&(decide ((Vu (w64 (t.Height-s.Height)) (w64 (s.Height-t.Height)))≤qi))) (
      cond (t.Code==s.Code) (
       (true,0)) (
       cond (t.Code==(-1)) (
        (true,0)) (
        (s.Code==(-1),0)))) (
      (false,0))))))
set_option maxHeartbeats 4000000 in
theorem Ly (t:Track) (s:Zj) (qi:Int) (w:World):Calls Tryz.prog 107 #[Track.v t,Zj.v s,.int .i64 qi] w (Ret w (.tuple #[.bool ((X9 t s qi).1),.int .i64 ((X9 t s qi).2)])):=by
 refine Zp (vs:=[Track.v t,Zj.v s,.i qi]) (w:=w) Tryz.func107 rfl Tryz.ntmps107 rfl (Zf (ZA 3 (fun b1=>.p0 b1) (fun b1=>Bk b1 (Track.c t) 40) (fun b1=>{}) (fun b1=>ZA 4 (fun b2=>.p0 b2) (fun b2=>Bk b2 (Zj.c s) 42) (fun b2=>{}) (fun b2=>Zc 4 [] [(6,.b false),(7,.i 0)] {} (Z1 (Zf (Zc 1 [1] [(10,Track.v t)] {} (TL.c 11 (Yt t) (fun r1=>.i r1) (fun w _=>K5 t w) {} (fun r1 hr1=>Zc 3 [] [(8,.i r1)] {} (Zz (Zc 2 [] [(13,.b (r1 != 0))] {} (Zb rfl (TC.cond (r1 != 0) rfl Kr (fun h1=>?_) (fun h1=>?_))))))))))))))
 ·exact Zf (Zc 3 [] [(6,.b false),(7,.i r1)] {} (Zb rfl (TC.ret (Zo (TE.ret [] (.tuple #[.b false,.i r1]) {} (by unfold X9;refine eS (a:=(false,r1)) (fun (z:Bool×Int)=>(.tuple #[.b z.1,.i z.2]:Value)) ?_;subst hr1;exact Zm h1 (rfl)))))))
 ·refine Yg (TC.seq (Zf (Zc 1 [0] [(15,Zj.v s)] {} (TL.c 16 (ZG s) (fun r2=>.i r2) (fun w _=>XX s w) {} (fun r2 hr2=>Zc 3 [] [(9,.i r2)] {} (Zz (Zc 2 [] [(18,.b (r2 != 0))] {} (Zb rfl (TC.cond (r2 != 0) rfl Kr (fun h2=>?_) (fun h2=>?_))))))))))
  ·exact Zf (Zc 3 [] [(6,.b false),(7,.i r2)] {} (Zb rfl (TC.ret (Zo (TE.ret [] (.tuple #[.b false,.i r2]) {} (by unfold X9;refine eS (a:=(false,r2)) (fun (z:Bool×Int)=>(.tuple #[.b z.1,.i z.2]:Value)) ?_;subst hr1 hr2;exact Ze h1 (Zm h2 (rfl))))))))
  ·refine Yg (TC.seq (TC.block (Zf (Zc 3 [] [(23,.b (decide (qi<0)))] {} (XM 23 (decide (qi<0)) 6 [] [] (fun β=>[(26,.b (β||(decide (qi>60000))))]) Kr {} {} (Zc 7 [] [(20,.b ((decide (qi<0))||(decide (qi>60000))))] {} (Zb rfl (TC.cond ((decide (qi<0))||(decide (qi>60000))) rfl Kr (fun h3=>?_) (fun h3=>?_)))))))))
   ·refine Zf (Zc 2 [] [(6,.b false),(7,.i 4)] {} (Zb rfl (TC.ret (ZL (Zo ?_)))))
    exact TE.ret [] (.tuple #[.b false,.i 4]) {} (by unfold X9;refine eS (a:=(false,4)) (fun (z:Bool×Int)=>(.tuple #[.b z.1,.i z.2]:Value)) ?_;subst hr1 hr2;exact Ze h1 (Ze h2 (Zm h3 (rfl))))
   ·refine Zf (Zc 6 [1,0] [(27,.b (t.Time != s.Time))] {} (Zb rfl (TC.cond (t.Time != s.Time) rfl Kr (fun h4=>?_) (fun h4=>?_))))
    ·refine Zf (Zc 2 [] [(6,.b false),(7,.i 12)] {} (Zb rfl (TC.ret (ZL (Zo ?_)))))
     exact TE.ret [] (.tuple #[.b false,.i 12]) {} (by unfold X9;refine eS (a:=(false,12)) (fun (z:Bool×Int)=>(.tuple #[.b z.1,.i z.2]:Value)) ?_;subst hr1 hr2;exact Ze h1 (Ze h2 (Ze h3 (Zm h4 (rfl)))))
    ·refine TC.skip (ZY (YC (Zc 9 [1,0,1,0] [(34,P.v t.At),(36,P.v s.At),(41,.i (w64 (t.Radius+s.Error)))] {} (TL.c 42 (ZX t.At s.At (w64 (t.Radius+s.Error))) (fun r3=>.b r3) (fun w _=>QR t.At s.At (w64 (t.Radius+s.Error)) w) {} (fun r3 hr3=>Zc 11 [] [(43,.b r3)] {} (XM 43 r3 25 [1,0,0,1] [] (fun β=>[(57,.b (β&&(decide ((Vu (w64 (t.Height-s.Height)) (w64 (s.Height-t.Height)))≤qi))))]) Kr {} {} (Zc 26 [] [(58,.b (r3&&(decide ((Vu (w64 (t.Height-s.Height)) (w64 (s.Height-t.Height)))≤qi))))] {} (Yy 58 (r3&&(decide ((Vu (w64 (t.Height-s.Height)) (w64 (s.Height-t.Height)))≤qi))) Kr (fun h5=>?_) (fun h5=>?_)))))))))
     ·refine Zc 32 [1,0] [(64,.b (t.Code==s.Code))] {} (Yy 64 (t.Code==s.Code) Kr (fun h6=>?_) (fun h6=>?_))
      ·exact Zc 44 [] [(6,.b true),(7,.i 0)] {} (Zb rfl (TC.ret (TE.ret [] (.tuple #[.b true,.i 0]) {} (by unfold X9;refine eS (a:=(true,0)) (fun (z:Bool×Int)=>(.tuple #[.b z.1,.i z.2]:Value)) ?_;subst hr1 hr2 hr3;exact Ze h1 (Ze h2 (Ze h3 (Ze h4 (Zm h5 (Zm h6 (rfl))))))))))
      ·refine Zc 37 [1] [(69,.b (t.Code==(-1)))] {} (Yy 69 (t.Code==(-1)) Kr (fun h7=>?_) (fun h7=>?_))
       ·exact Zc 44 [] [(6,.b true),(7,.i 0)] {} (Zb rfl (TC.ret (TE.ret [] (.tuple #[.b true,.i 0]) {} (by unfold X9;refine eS (a:=(true,0)) (fun (z:Bool×Int)=>(.tuple #[.b z.1,.i z.2]:Value)) ?_;subst hr1 hr2 hr3;exact Ze h1 (Ze h2 (Ze h3 (Ze h4 (Zm h5 (Ze h6 (Zm h7 (rfl)))))))))))
       ·exact Zc 44 [0] [(6,.b (s.Code==(-1))),(7,.i 0)] {} (Zb rfl (TC.ret (TE.ret [] (.tuple #[.b (s.Code==(-1)),.i 0]) {} (by unfold X9;refine eS (a:=(s.Code==(-1),0)) (fun (z:Bool×Int)=>(.tuple #[.b z.1,.i z.2]:Value)) ?_;subst hr1 hr2 hr3;exact Ze h1 (Ze h2 (Ze h3 (Ze h4 (Zm h5 (Ze h6 (Ze h7 (rfl)))))))))))
     ·exact Zc 44 [] [(6,.b false),(7,.i 0)] {} (Zb rfl (TC.ret (TE.ret [] (.tuple #[.b false,.i 0]) {} (by unfold X9;refine eS (a:=(false,0)) (fun (z:Bool×Int)=>(.tuple #[.b z.1,.i z.2]:Value)) ?_;subst hr1 hr2 hr3;exact Ze h1 (Ze h2 (Ze h3 (Ze h4 (Ze h5 (rfl)))))))))
def Jp (qi:Int) (x:Track):List Zj→Nat→(List Int)→((List Int) ⊕ ((List (List Int))×Int))
 | [],_,row=>.inl row
 | x_2::xs,k_2,row=>let r1:=X9 x x_2 qi
  cond (r1.2 != 0) (
   .inr ([],r1.2)) (
   cond r1.1 (
    let r2:=ZN x.At x_2.At
    Jp qi x xs (k_2+1) ((row.set k_2 (-1)).set k_2 (YF (w64 (r2.tdiv 10000)) 1073741824))) (
    Jp qi x xs (k_2+1) (row.set k_2 (-1))))
def JP (q6:List Zj) (qi:Int):List Track→Nat→(List (List Int))→((List (List Int)) ⊕ ((List (List Int))×Int))
 | [],_,out=>.inl out
 | x::xs,k,out=>Sum.elim (fun qv =>
   JP q6 qi xs (k+1) (out ++ [qv])) (fun r=>.inr r) (Jp qi x q6 0 (List.replicate ((q6.length:Int).toNat) (0:Int)))
def XF (qd:List Track) (q6:List Zj) (qi:Int):List (List Int)×Int :=
 cond ((decide ((qd.length:Int)>32))||(decide ((q6.length:Int)>32))) (
  ([],2)) (
  Sum.elim (fun qk =>
   (qk,0)) (fun r=>r) (JP q6 qi qd 0 ([]:List (List Int))))
set_option maxHeartbeats 4000000 in
theorem N9 (A_tracks:Option Addr) (qp:Nat) (qd:List Track) (A_spots:Option Addr) (vr:Nat) (q6:List Zj) (qi:Int) (w:World) (j6:Rd w 13 A_tracks (qd.map Track.c)) (_hc_tracks:qd.length≤qp) (p7:Rd w 6 A_spots (q6.map Zj.c)) (_hc_spots:q6.length≤vr):Calls Tryz.prog 51 #[.slice A_tracks qd.length qp,.slice A_spots q6.length vr,.int .i64 qi] w (JH (Γ:=((Option Addr×Nat)×List (Sl Int))) (cx w) (fun g=>.tuple #[.slice g.1.1 ((XF qd q6 qi).1.length) g.1.2,.int .i64 ((XF qd q6 qi).2)]) (fun g=>[.inr (Qm ((XF qd q6 qi).1=g.2.map Sl.l)),.inr (Own g.1.1 g.1.2 22 1 (g.2.map Sl.c)),.inr (Bag 3 1 ic g.2)])):=by
 have wz:=j6.short;rw[aD] at wz
 have ru:=p7.short;rw[aD] at ru
 refine Zp (vs:=[.slice A_tracks qd.length qp,.slice A_spots q6.length vr,.i qi]) (w:=w) Tryz.func51 rfl Tryz.ntmps51 rfl (Zf (Zc 2 [] [(6,.slice none 0 0),(7,.i 0)] {} (Z1 (Zf (Zc 4 [] [(19,.b (decide ((qd.length:Int)>32)))] {} (XM 19 (decide ((qd.length:Int)>32)) 8 [] [] (fun β=>[(23,.b (β||(decide ((q6.length:Int)>32))))]) Kr {} {} (Zb rfl (TC.cond ((decide ((qd.length:Int)>32))||(decide ((q6.length:Int)>32))) rfl Kr (fun h1=>?_) (fun h1=>?_)))))))))
 ·refine Zf (Zc 2 [] [(6,.slice none 0 0),(7,.i 2)] {} (Zb rfl (TC.ret (Zo ?_))))
  have e:XF qd q6 qi=([],2):=by unfold XF;exact Zm h1 (rfl)
  refine Yi [Ow none 0 22 1 (([]:List (Sl Int)).map Sl.c),.inr (Bag 3 1 ic ([]:List (Sl Int)))] (fun _ hM=>(hM.bag_nil 3 1 ic).emptyrow none 22 1) ?_
  rw[e]
  exact ZO (.inl rfl) ((none,0),([]:List (Sl Int))) [] (.tuple #[.slice none 0 0,.i 2]) {} rfl (fun _ hM=>(hM.sub (sb 3)).fact rfl)
 ·have vm:=(Zv (Z2 h1))
  have rq:=(Zv (Ye h1))
  refine Yc (Zc 1 [] [(8,.slice none 0 0)] {} (Z1 (Zf (Zc 3 [] [(24,.slice A_tracks qd.length qp),(25,.i (qd.length:Int)),(26,.i 0)] {} (Zb rfl (Q0 [Ow none 0 22 1 (([]:List (Sl Int)).map Sl.c),.inr (Bag 3 1 ic ([]:List (Sl Int)))] (fun _ hM=>(hM.bag_nil 3 1 ic).emptyrow none 22 1) ?_))))))
  obtain⟨R3,hR⟩:∃ R,R=JP q6 qi qd 0 ([]:List (List Int)):=⟨_,rfl⟩
  refine TC.cut (S:=(List (List Int))×(Option Addr)×Nat×(List (Sl Int))) (fun (qk,A_out_2,qe,jq)=>[(8,.slice A_out_2 qk.length qe)]) (fun (qk,A_out_2,qe,jq)=>[Ow A_out_2 qe 22 1 (jq.map Sl.c),.inr (Bag 3 1 ic jq)]) (fun (qk,A_out_2,qe,jq)=>R3=.inl qk∧qk.length≤qd.length∧(qk=jq.map Sl.l)) ?_ ?_
  ·refine TC.block (Xp (X:=Nat×(List (List Int))×(Option Addr)×Nat×(List (Sl Int))) (fun (k,out,A_out,qh,zn)=>[(1,.slice A_spots q6.length vr),(2,.i qi),(8,.slice A_out out.length qh),(24,.slice A_tracks qd.length qp),(25,.i (qd.length:Int)),(26,.i (k:Int))]) (fun (k,out,A_out,qh,zn)=>[Ow A_out qh 22 1 (zn.map Sl.c),.inr (Bag 3 1 ic zn)]) (fun (k,out,A_out,qh,zn)=>qd.length-k) (fun (k,out,A_out,qh,zn)=>k≤qd.length∧R3=JP q6 qi (qd.drop k) k out∧out.length≤k∧(out=zn.map Sl.l)) ?_ (0,([]:List (List Int)),none,0,([]:List (Sl Int))) ⟨aP _,hR,sz,rfl⟩ Kr (sb 3))
   rintro⟨k,out,A_out,qh,zn⟩ ⟨hk,hI,kn,jk⟩
   refine Zf (Zc 1 [] [(27,.b (decide ((k:Int)<(qd.length:Int))))] {} (Z1 (TC.cond (decide ((k:Int)<(qd.length:Int))) rfl Kr (fun h2=>?_) (fun h2=>?_))))
   ·have hlt:=ltN h2
    obtain⟨x,hx⟩:=elN hlt
    have hd:=drop_at hx
    refine Yg (TC.seq (TC.block (Zf (TL.v (sV (Instr.indexAt 57 (.slice A_tracks qd.length qp) (.i (k:Int)))) 28 (.pointer (some (Ix A_tracks (k*13)))) (fun w hM=>Zr (j6.sat hM) (by simp) Kr sd sd) {} (TL.v (sV (Instr.loadAt 40 (.pointer (some (Ix A_tracks (k*13)))))) 29 (Track.v x) (fun w hM=>Z9 (n:=13) (off:=0) (i:=k) (Track.v x) (j6.sat hM) (Z6 hx) Kr Kr Kr) {} (ZA 10 (fun b1=>.p0 b1) (fun b1=>Bk b1 (Track.c Track.zero) 40) (fun b1=>{}) (fun b1=>Yp 0 (Bk b1 (Track.c x) 40) (fun _=>{}) (Zz (Zc 2 [] [(31,.i (q6.length:Int))] {} (TL.on (Γ:=AN) (sV (Instr.makeSlice 22 (.i (q6.length:Int)) (.i (q6.length:Int)))) 32 (fun g=>.slice g.1 (List.replicate ((q6.length:Int).toNat) (0:Int)).length g.2) (fun g=>Ow g.1 g.2 3 1 ((List.replicate ((q6.length:Int).toNat) (0:Int)).map ic)) (KX (P:=Tryz.prog) (c:=ic) (t:=22) (e:=3) (sz:=1) (bytes:=8) 0 .i64 .i64 ((q6.length:Int).toNat) Kr Kr sd sd) {} ?_))))))))))
    rintro⟨A,c⟩
    refine Zc 4 [] [(11,.slice A ((List.replicate ((q6.length:Int).toNat) (0:Int)).length) c)] {} (Z1 (Zf (Zc 3 [] [(33,.slice A_spots q6.length vr),(34,.i (q6.length:Int)),(35,.i 0)] {} (Zb rfl ?_))))
    obtain⟨R5,xo⟩:∃ R,R=Jp qi x q6 0 (List.replicate ((q6.length:Int).toNat) (0:Int)):=⟨_,rfl⟩
    refine TC.cut (S:=(List Int)) (fun qv=>[(1,.slice A_spots q6.length vr),(2,.i qi),(8,.slice A_out out.length qh),(11,.slice A qv.length c),(24,.slice A_tracks qd.length qp),(25,.i (qd.length:Int)),(26,.i (k:Int))]) (fun qv=>[Ow A c 3 1 (qv.map ic),Ow A_out qh 22 1 (zn.map Sl.c),.inr (Bag 3 1 ic zn)]) (fun qv=>R5=.inl qv∧qv.length=((q6.length:Int).toNat)) ?_ ?_
    ·refine TC.block (Xp (X:=Nat×(List Int)) (fun (k_2,row)=>[(1,.slice A_spots q6.length vr),(2,.i qi),(8,.slice A_out out.length qh),(10,.p0 b1),(11,.slice A row.length c),(24,.slice A_tracks qd.length qp),(25,.i (qd.length:Int)),(26,.i (k:Int)),(33,.slice A_spots q6.length vr),(34,.i (q6.length:Int)),(35,.i (k_2:Int))]) (fun (k_2,row)=>[Ow A c 3 1 (row.map ic),Bk b1 (Track.c x) 40,Ow A_out qh 22 1 (zn.map Sl.c),.inr (Bag 3 1 ic zn)]) (fun (k_2,row)=>q6.length-k_2) (fun (k_2,row)=>k_2≤q6.length∧R5=Jp qi x (q6.drop k_2) k_2 row∧row.length=((q6.length:Int).toNat)) ?_ (0,(List.replicate ((q6.length:Int).toNat) (0:Int))) ⟨aP _,xo,sz⟩ Kr (sb 15))
     rintro⟨k_2,row⟩ ⟨y4,xg,sj⟩
     refine Zf (Zc 1 [] [(36,.b (decide ((k_2:Int)<(q6.length:Int))))] {} (Z1 (TC.cond (decide ((k_2:Int)<(q6.length:Int))) rfl Kr (fun h3=>?_) (fun h3=>?_))))
     ·have zk:=ltN h3
      obtain⟨x_2,jf⟩:=elN zk
      have zr:=drop_at jf
      refine Yg (TC.seq (TC.block (Zf (Zc 1 [] [(37,.i (k_2:Int))] {} (TL.v (sV (Instr.indexAt 52 (.slice A_spots q6.length vr) (.i (k_2:Int)))) 38 (.pointer (some (Ix A_spots (k_2*6)))) (fun w hM=>Zr (p7.sat hM) (by simp) Kr sd sd) {} (TL.v (sV (Instr.loadAt 42 (.pointer (some (Ix A_spots (k_2*6)))))) 39 (Zj.v x_2) (fun w hM=>Z9 (n:=6) (off:=0) (i:=k_2) (Zj.v x_2) (p7.sat hM) (Z6 jf) Kr Kr Kr) {} (ZA 13 (fun b2=>.p0 b2) (fun b2=>Bk b2 (Zj.c Zj.zero) 42) (fun b2=>{}) (fun b2=>Zc 5 [] [(12,.i (k_2:Int))] {} (Yp 0 (Bk b2 (Zj.c x_2) 42) (fun _=>{}) (Zz (Zc 3 [2,0] [(41,Track.v x),(42,Zj.v x_2),(43,.i qi)] {} (TL.c 44 (X9 x x_2 qi) (fun r1=>.tuple #[.b r1.1,.i r1.2]) (fun w _=>Ly x x_2 qi w) {} (fun r1 hr1=>Zc 9 [] [(14,.b r1.1),(15,.i r1.2)] {} (Z1 (Zf (Zc 2 [] [(48,.b (r1.2 != 0))] {} (Zb rfl (TC.cond (r1.2 != 0) rfl Kr (fun h4=>?_) (fun h4=>?_)))))))))))))))))))
      ·refine Zf (Zc 3 [] [(6,.slice none 0 0),(7,.i r1.2)] {} (Zb rfl (TC.ret (Zo (ZL (Zo (Zo (ZL (Zo (Zo (ZL (Zo (Zo (ZL (Zo (Zo ?_))))))))))))))))
       have e:XF qd q6 qi=([],r1.2):=by subst hr1;unfold XF;exact Ze h1 (Xh (hR.symm.trans (hI.trans (by rw[hd];exact Xh (xo.symm.trans (xg.trans (by rw[zr];exact Zm h4 (rfl)))) rfl))) rfl)
       refine Yi [Ow none 0 22 1 (([]:List (Sl Int)).map Sl.c),.inr (Bag 3 1 ic ([]:List (Sl Int))),Bk b2 (Zj.c x_2) 42,Ow A c 3 1 (row.map ic),Bk b1 (Track.c x) 40,Ow A_out qh 22 1 (zn.map Sl.c),.inr (Bag 3 1 ic zn)] (fun _ hM=>(hM.bag_nil 3 1 ic).emptyrow none 22 1) ?_
       rw[e]
       exact ZO (.inl rfl) ((none,0),([]:List (Sl Int))) [] (.tuple #[.slice none 0 0,.i r1.2]) {} rfl (fun _ hM=>(hM.sub (sb 3)).fact rfl)
      ·have yq:=(QA h4)
       refine Yc (Zc 2 [] [(50,.slice A row.length c),(51,.i (k_2:Int))] {} (TL.v (sV (Instr.indexAt 22 (.slice A row.length c) (.i (k_2:Int)))) 52 (.pointer (some (Ix A (k_2*1)))) (fun w hM=>Zr (hM.rd_at 1 rfl) (by simp) Kr sd sd) {} (KF (Γ:=Unit) (sU (Instr.storeAt 3 (.pointer (some ((Ix A (k_2*1)).add 0))) (.i (-1)))) 1 (Ow A c 3 1 ((row.set k_2 (-1)).map ic)) (Y2 (n:=1) (off:=0) (.i (-1)) 1 ((row.set k_2 (-1)).map ic) rfl (Z6 (getD_at _ _ 0 sd)) Kr Kr Kr Kr (YJ Kr)) Kr (TL.rw 11 (.slice A row.length c) (.slice A ((row.set k_2 (-1)).length) c) Kr (by simp only[aL]) (Zz (Zc 1 [] [(53,.b r1.1)] {} (Zb rfl (TC.cond r1.1 rfl Kr (fun h5=>?_) (fun h5=>?_)))))))))
       ·exact TC.region (Zc 6 [2,0] [(54,.slice A ((row.set k_2 (-1)).length) c),(55,.i (k_2:Int)),(57,P.v x.At),(59,P.v x_2.At)] {} (TL.c 60 (ZN x.At x_2.At) (fun r2=>.i r2) (fun w _=>Ju x.At x_2.At w) {} (fun r2 hr2=>Zc 9 [] [(62,.i (YF (w64 (r2.tdiv 10000)) 1073741824))] {} (TL.v (sV (Instr.indexAt 22 (.slice A ((row.set k_2 (-1)).length) c) (.i (k_2:Int)))) 63 (.pointer (some (Ix A (k_2*1)))) (fun w hM=>Zr (hM.rd_at 1 rfl) (by simp) Kr sd sd) {} (KF (Γ:=Unit) (sU (Instr.storeAt 3 (.pointer (some ((Ix A (k_2*1)).add 0))) (.i (YF (w64 (r2.tdiv 10000)) 1073741824)))) 1 (Ow A c 3 1 (((row.set k_2 (-1)).set k_2 (YF (w64 (r2.tdiv 10000)) 1073741824)).map ic)) (Y2 (n:=1) (off:=0) (.i (YF (w64 (r2.tdiv 10000)) 1073741824)) 1 (((row.set k_2 (-1)).set k_2 (YF (w64 (r2.tdiv 10000)) 1073741824)).map ic) rfl (Z6 (getD_at _ _ 0 sd)) Kr Kr Kr Kr (YJ Kr)) Kr (TL.rw 11 (.slice A ((row.set k_2 (-1)).length) c) (.slice A (((row.set k_2 (-1)).set k_2 (YF (w64 (r2.tdiv 10000)) 1073741824)).length) c) Kr (by simp only[aL]) (Zw rfl (ZY (Z3 (TC.region (Zc 2 [] [(35,.i (w64 ((k_2:Int)+1)))] {} (Zw rfl (TE.rw 35 (.i (w64 ((k_2:Int)+1))) (.i ((k_2+1:Nat):Int)) Kr (ZD k_2 (by omega)) (Z4 (x:=(k_2,row)) (k_2+1,((row.set k_2 (-1)).set k_2 (YF (w64 (r2.tdiv 10000)) 1073741824))) ⟨by omega,xg.trans (by subst hr1 hr2;rw[zr];exact Ze h4 (Zm h5 (rfl))),sl⟩ (mN zk) Kr (sb 30)))))))))))))))
       ·exact TC.skip (ZY (Z3 (TC.region (Zc 2 [] [(35,.i (w64 ((k_2:Int)+1)))] {} (Zw rfl (TE.rw 35 (.i (w64 ((k_2:Int)+1))) (.i ((k_2+1:Nat):Int)) Kr (ZD k_2 (by omega)) (Z4 (x:=(k_2,row)) (k_2+1,(row.set k_2 (-1))) ⟨by omega,xg.trans (by subst hr1;rw[zr];exact Ze h4 (Ze h5 (rfl))),sl⟩ (mN zk) Kr (sb 30))))))))
     ·have zr:=Qb h3
      refine TC.exit (ZT (ZT (Z0 ?_)))
      exact TE.cut row (⟨xg.trans (by rw[zr];exact rfl),sl⟩) Kr (sb 13)
    ·rintro qv ⟨jv,gy⟩
     refine Z3 (TC.region (Zc 2 [] [(65,.slice A_out out.length qh),(66,.slice A qv.length c)] {} (ZA 67 (fun b3=>.slice (Pa b3) 1 1) (fun b3=>Bk b3 #[.slice A qv.length c] 22) (fun b3=>{}) (fun b3=>TL.rw 65 (.slice A_out out.length qh) (.slice A_out zn.length qh) Kr (by rw[JC jk]) (Fa (Γ:=AN) (sV (Builtin.append_ #[132,132] 132 #[.slice A_out zn.length qh,.slice (Pa b3) 1 1])) (some 68) (fun g=>.slice g.1 (zn ++ [(⟨A,c,qv⟩:Sl Int)]).length g.2) (fun g=>[Bk b3 #[.slice A qv.length c] 22,Ow A c 3 1 (qv.map ic),Ow g.1 g.2 22 1 ((zn ++ [(⟨A,c,qv⟩:Sl Int)]).map Sl.c),.inr (Bag 3 1 ic zn)]) (fun g=>[(1,.slice A_spots q6.length vr),(2,.i qi),(24,.slice A_tracks qd.length qp),(25,.i (qd.length:Int)),(26,.i (k:Int)),(68,.slice g.1 ((zn ++ [(⟨A,c,qv⟩:Sl Int)]).length) g.2)]) (QE (bytes:=24) 132 2 [(⟨A,c,qv⟩:Sl Int)] Kr rfl rfl Sl.one rfl (fun w hM=>(Rd.lit hM 0 _ rfl Kr Kr Kr)) rfl (by have hz_:=JC jk;rw[← hz_];exact sa)) Kr (fun g=>Kr) ?_)))))
     rintro⟨A_2,c_2⟩
     exact TL.rw 68 (.slice A_2 ((zn ++ [(⟨A,c,qv⟩:Sl Int)]).length) c_2) (.slice A_2 ((out ++ [qv]).length) c_2) Kr (by rw[← JC (Gy (s:=(⟨A,c,qv⟩:Sl Int)) jk)]) (Xm [.inr (Bag 3 1 ic (zn ++ [(⟨A,c,qv⟩:Sl Int)])),Bk b3 #[.slice A qv.length c] 22,Ow A_2 c_2 22 1 ((zn ++ [(⟨A,c,qv⟩:Sl Int)]).map Sl.c)] (fun _ hM=>Sat.bag_add (hM.perm (((List.Perm.cons _ (aC _)).trans (List.Perm.swap _ _ _)).trans (List.Perm.cons _ (((List.Perm.cons _ ((List.Perm.cons _ (aC _)).trans (List.Perm.swap _ _ _))).trans (List.Perm.swap _ _ _)).trans (List.Perm.cons _ (aC _))))))) (Xm [Ow A_2 c_2 22 1 ((zn ++ [(⟨A,c,qv⟩:Sl Int)]).map Sl.c),.inr (Bag 3 1 ic (zn ++ [(⟨A,c,qv⟩:Sl Int)])),Bk b3 #[.slice A qv.length c] 22] (fun _ hM=>hM.perm (px [2,0,1])) (Zc 5 [] [(8,.slice A_2 ((out ++ [qv]).length) c_2)] {} (Zw rfl (ZY (Z3 (TC.region (Zc 2 [] [(26,.i (w64 ((k:Int)+1)))] {} (Zw rfl (TE.rw 26 (.i (w64 ((k:Int)+1))) (.i ((k+1:Nat):Int)) Kr (ZD k (by omega)) (Z4 (x:=(k,out,A_out,qh,zn)) (k+1,(out ++ [qv]),A_2,c_2,(zn ++ [(⟨A,c,qv⟩:Sl Int)])) ⟨by omega,hI.trans (by rw[hd];exact Q3 (xo.symm.trans jv) (rfl)),sl,(Gy (s:=(⟨A,c,qv⟩:Sl Int)) jk)⟩ (mN hlt) Kr (sb 3))))))))))))
   ·have hd:=Qb h2
    refine TC.exit (ZT (ZT (Z0 ?_)))
    exact TE.cut (out,A_out,qh,zn) (⟨hI.trans (by rw[hd];exact rfl),sl,jk⟩) Kr (sb 3)
  ·rintro⟨qk,A_out_2,qe,jq⟩ ⟨hJ,jw,w4⟩
   refine YC (Zc 3 [] [(6,.slice A_out_2 qk.length qe),(7,.i 0)] {} (Zb rfl (TC.ret ?_)))
   have e:XF qd q6 qi=(qk,0):=by unfold XF;exact Ze h1 (Q3 (hR.symm.trans hJ) (rfl))
   rw[e]
   exact ZO (.inl rfl) ((A_out_2,qe),jq) [] (.tuple #[.slice A_out_2 qk.length qe,.i 0]) {} rfl (fun _ hM=>(hM.sub (sb 3)).fact w4)
end Go.Sky
end
section
namespace Go.Sky
open Go Go.Eng Go.Proofs
def Qg:List Int→Nat→((Unit) ⊕ (Int))
 | [],_=>.inl ()
 | x_2::xs,k_2=>cond ((decide (x_2<(-1)))||(decide (x_2>1099511627776))) (
   .inr 4) (
   Qg xs (k_2+1))
def Qh (qb:List (List Int)):List (List Int)→Nat→((Unit) ⊕ (Int))
 | [],_=>.inl ()
 | x::xs,k=>cond (decide ((x.length:Int)>32)) (
   .inr 2) (
   cond ((x.length:Int) != ((qb[0]?.getD []).length:Int)) (
    .inr 3) (
    Sum.elim (fun _ =>
     Qh qb xs (k+1)) (fun r=>.inr r) (Qg x 0)))
def Yn (qb:List (List Int)) (qc:Int):Int :=
 cond (decide ((qb.length:Int)>32)) (
  2) (
  Sum.elim (fun _ =>
   cond ((decide (qc<0))||(decide (qc>1099511627776))) (
    4) (
    0)) (fun r=>r) (Qh qb qb 0))
set_option maxHeartbeats 4000000 in
theorem BV (A_costs:Option Addr) (qo:Nat) (qb:List (List Int)) (qq:List (Sl Int)) (qc:Int) (w:World) (xj:Rd w 1 A_costs (qq.map Sl.c)) (_hc_costs:qb.length≤qo) (xa:∀ s∈qq,s.rd w 1 ic) (qz:qb=qq.map Sl.l):Calls Tryz.prog 153 #[.slice A_costs qb.length qo,.int .i64 qc] w (Ret w (.int .i64 (Yn qb qc))):=by
 have ki:=xj.short;rw[← Jt qz] at ki
 refine Zp (vs:=[.slice A_costs qb.length qo,.i qc]) (w:=w) Tryz.func153 rfl Tryz.ntmps153 rfl (Zf (Zc 1 [] [(4,.i 0)] {} (Z1 (Zf (Zc 3 [] [(11,.b (decide ((qb.length:Int)>32)))] {} (Zb rfl (TC.cond (decide ((qb.length:Int)>32)) rfl Kr (fun h1=>?_) (fun h1=>?_))))))))
 ·exact Zf (Zc 1 [] [(4,.i 2)] {} (Zb rfl (TC.ret (Zo (TE.ret [] (.i 2) {} (by unfold Yn;refine eS (fun z=>(.i z:Value)) ?_;exact Zm h1 (rfl)))))))
 ·have vm:=(Zv h1)
  refine Yg (TC.seq (Zf (Zc 3 [] [(12,.slice A_costs qb.length qo),(13,.i (qb.length:Int)),(14,.i 0)] {} (Zb rfl ?_))))
  obtain⟨R1,hR⟩:∃ R,R=Qh qb qb 0:=⟨_,rfl⟩
  refine TC.cut (S:=Unit) (fun (_:Unit)=>[(1,.i qc)]) (fun (_:Unit)=>[]) (fun (_:Unit)=>R1=.inl ()) ?_ ?_
  ·refine TC.block (Xp (X:=Nat) (fun k=>[(0,.slice A_costs qb.length qo),(1,.i qc),(12,.slice A_costs qb.length qo),(13,.i (qb.length:Int)),(14,.i (k:Int))]) (fun k=>[]) (fun k=>qb.length-k) (fun k=>k≤qb.length∧R1=Qh qb (qb.drop k) k) ?_ 0 ⟨aP _,hR⟩ Kr (sb 0))
   rintro k ⟨hk,hI⟩
   refine Zf (Zc 1 [] [(15,.b (decide ((k:Int)<(qb.length:Int))))] {} (Z1 (TC.cond (decide ((k:Int)<(qb.length:Int))) rfl Kr (fun h2=>?_) (fun h2=>?_))))
   ·have hlt:=ltN h2
    obtain⟨x,hx⟩:=elN hlt
    have hd:=drop_at hx
    refine Yg (TC.seq (TC.block (Zf (TL.v (sV (Instr.indexAt 132 (.slice A_costs qb.length qo) (.i (k:Int)))) 16 (.pointer (some (Ix A_costs (k*1)))) (fun w hM=>Zr (xj.sat hM) (Jt qz) Kr sd sd) {} ?_))))
    have w5:=(JD (XS xa k) (JW qz hx)).short;rw[aD] at w5
    refine TL.v (sV (Instr.loadAt 22 (.pointer (some (Ix A_costs (k*1)))))) 17 (.slice ((qq[k]?.getD Sl.zero).A) x.length ((qq[k]?.getD Sl.zero).cap)) (fun w hM=>(by have h:=Zu (P:=Tryz.prog) (T:=22) (off:=0) (i:=k) (.slice (qq[k]?.getD Sl.zero).A (qq[k]?.getD Sl.zero).l.length (qq[k]?.getD Sl.zero).cap) (xj.sat hM) (Z6 (getD_at _ _ Sl.zero (U9 qz (aK.1 hx).1))) Kr Kr;rw[(JW qz hx)] at h;exact h)) {} ?_
    refine Zc 3 [] [(6,.slice ((qq[k]?.getD Sl.zero).A) x.length ((qq[k]?.getD Sl.zero).cap))] {} (Z1 (TC.block (Zf (Zc 4 [] [(18,.b (decide ((x.length:Int)>32)))] {} (Zb rfl (TC.cond (decide ((x.length:Int)>32)) rfl Kr (fun h3=>?_) (fun h3=>?_)))))))
    ·refine Zf (Zc 1 [] [(4,.i 2)] {} (Zb rfl (TC.ret (ZL (Zo (ZL (Zo (Zo (ZL (Zo (Zo ?_)))))))))))
     exact TE.ret [] (.i 2) {} (by unfold Yn;refine eS (fun z=>(.i z:Value)) ?_;exact Ze h1 (Xh (hR.symm.trans (hI.trans (by rw[hd];exact Zm h3 (rfl)))) rfl))
    ·have y2:=(Zv h3)
     refine Zf (Zc 3 [] [(24,.i (x.length:Int)),(25,.slice A_costs qb.length qo)] {} (TL.v (sV (Instr.indexAt 132 (.slice A_costs qb.length qo) (.i 0))) 26 (.pointer (some (Ix A_costs (0*1)))) (fun w hM=>Zr (xj.sat hM) (Jt qz) Kr sd sd) {} ?_))
     have lz:=(JD (XS xa 0) (JI qz 0)).short;rw[aD] at lz
     refine TL.v (sV (Instr.loadAt 22 (.pointer (some (Ix A_costs (0*1)))))) 27 (.slice ((qq[0]?.getD Sl.zero).A) ((qb[0]?.getD []).length) ((qq[0]?.getD Sl.zero).cap)) (fun w hM=>(by have h:=Zu (P:=Tryz.prog) (T:=22) (off:=0) (i:=0) (.slice (qq[0]?.getD Sl.zero).A (qq[0]?.getD Sl.zero).l.length (qq[0]?.getD Sl.zero).cap) (xj.sat hM) (Z6 (getD_at _ _ Sl.zero (U9 qz sd))) Kr Kr;rw[(JI qz 0)] at h;exact h)) {} (Zc 8 [] [(22,.b ((x.length:Int) != ((qb[0]?.getD []).length:Int)))] {} (Zb rfl (TC.cond ((x.length:Int) != ((qb[0]?.getD []).length:Int)) rfl Kr (fun h4=>?_) (fun h4=>?_))))
     ·refine Zf (Zc 1 [] [(4,.i 3)] {} (Zb rfl (TC.ret (ZL (Zo (ZL (Zo (Zo (ZL (Zo (Zo ?_)))))))))))
      exact TE.ret [] (.i 3) {} (by unfold Yn;refine eS (fun z=>(.i z:Value)) ?_;exact Ze h1 (Xh (hR.symm.trans (hI.trans (by rw[hd];exact Ze h3 (Zm h4 (rfl))))) rfl))
     ·have yq:=(QA h4)
      refine TC.skip (ZY (YC (Zc 3 [] [(30,.slice ((qq[k]?.getD Sl.zero).A) x.length ((qq[k]?.getD Sl.zero).cap)),(31,.i (x.length:Int)),(32,.i 0)] {} (Zb rfl ?_))))
      obtain⟨R2,xo⟩:∃ R,R=Qg x 0:=⟨_,rfl⟩
      refine TC.cut (S:=Unit) (fun (_:Unit)=>[(0,.slice A_costs qb.length qo),(1,.i qc),(12,.slice A_costs qb.length qo),(13,.i (qb.length:Int)),(14,.i (k:Int))]) (fun (_:Unit)=>[]) (fun (_:Unit)=>R2=.inl ()) ?_ ?_
      ·refine TC.block (Xp (X:=Nat) (fun k_2=>[(0,.slice A_costs qb.length qo),(1,.i qc),(12,.slice A_costs qb.length qo),(13,.i (qb.length:Int)),(14,.i (k:Int)),(30,.slice ((qq[k]?.getD Sl.zero).A) x.length ((qq[k]?.getD Sl.zero).cap)),(31,.i (x.length:Int)),(32,.i (k_2:Int))]) (fun k_2=>[]) (fun k_2=>x.length-k_2) (fun k_2=>k_2≤x.length∧R2=Qg (x.drop k_2) k_2) ?_ 0 ⟨aP _,xo⟩ Kr (sb 0))
       rintro k_2 ⟨y4,xg⟩
       refine Zf (Zc 1 [] [(33,.b (decide ((k_2:Int)<(x.length:Int))))] {} (Z1 (TC.cond (decide ((k_2:Int)<(x.length:Int))) rfl Kr (fun h5=>?_) (fun h5=>?_))))
       ·have zk:=ltN h5
        obtain⟨x_2,jf⟩:=elN zk
        have zr:=drop_at jf
        refine Yg (TC.seq (TC.block (Zf (TL.v (sV (Instr.indexAt 22 (.slice ((qq[k]?.getD Sl.zero).A) x.length ((qq[k]?.getD Sl.zero).cap)) (.i (k_2:Int)))) 34 (.pointer (some ((((qq[k]?.getD Sl.zero).A).getD Yz).add (k_2*1)))) (fun w hM=>Zr (JD ((XS xa k).sat hM) (JW qz hx)) (by simp) Kr sd sd) {} (TL.v (sV (Instr.loadAt 3 (.pointer (some ((((qq[k]?.getD Sl.zero).A).getD Yz).add (k_2*1)))))) 35 (.i x_2) (fun w hM=>Zu (off:=0) (i:=k_2) (.i x_2) (JD ((XS xa k).sat hM) (JW qz hx)) (Z6 jf) Kr Kr) {} (Zc 3 [] [(8,.i x_2)] {} (Zz (Zc 3 [] [(38,.b (decide (x_2<(-1))))] {} (XM 38 (decide (x_2<(-1))) 6 [] [] (fun β=>[(41,.b (β||(decide (x_2>1099511627776))))]) Kr {} {} (Zb rfl (TC.cond ((decide (x_2<(-1)))||(decide (x_2>1099511627776))) rfl Kr (fun h6=>?_) (fun h6=>?_))))))))))))
        ·refine Zf (Zc 1 [] [(4,.i 4)] {} (Zb rfl (TC.ret (ZL (Zo (Zo (ZL (Zo (ZL (Zo (Zo (ZL (Zo (Zo ?_))))))))))))))
         exact TE.ret [] (.i 4) {} (by unfold Yn;refine eS (fun z=>(.i z:Value)) ?_;exact Ze h1 (Xh (hR.symm.trans (hI.trans (by rw[hd];exact Ze h3 (Ze h4 (Xh (xo.symm.trans (xg.trans (by rw[zr];exact Zm h6 (rfl)))) rfl))))) rfl))
        ·have y3:=(Zv (Z2 h6))
         have q6_1:=(Zv (Ye h6))
         exact TC.skip (ZY (Z3 (TC.region (Zc 2 [] [(32,.i (w64 ((k_2:Int)+1)))] {} (Zw rfl (TE.rw 32 (.i (w64 ((k_2:Int)+1))) (.i ((k_2+1:Nat):Int)) Kr (ZD k_2 (by omega)) (Z4 (x:=k_2) (k_2+1) ⟨by omega,xg.trans (by rw[zr];exact Ze h6 (rfl))⟩ (mN zk) Kr (sb 0))))))))
       ·have zr:=Qb h5
        refine TC.exit (ZT (ZT (Z0 ?_)))
        exact TE.cut () (xg.trans (by rw[zr];exact rfl)) Kr (sb 0)
      ·intro _ jv
       exact ZY (Z3 (TC.region (Zc 2 [] [(14,.i (w64 ((k:Int)+1)))] {} (Zw rfl (TE.rw 14 (.i (w64 ((k:Int)+1))) (.i ((k+1:Nat):Int)) Kr (ZD k (by omega)) (Z4 (x:=k) (k+1) ⟨by omega,hI.trans (by rw[hd];exact Ze h3 (Ze h4 (Q3 (xo.symm.trans jv) (rfl))))⟩ (mN hlt) Kr (sb 0)))))))
   ·have hd:=Qb h2
    refine TC.exit (ZT (ZT (Z0 ?_)))
    exact TE.cut () (hI.trans (by rw[hd];exact rfl)) Kr (sb 0)
  ·intro _ hJ
   refine Z3 (TC.seq (Zf (Zc 3 [] [(46,.b (decide (qc<0)))] {} (XM 46 (decide (qc<0)) 6 [] [] (fun β=>[(49,.b (β||(decide (qc>1099511627776))))]) Kr {} {} (Zb rfl (TC.cond ((decide (qc<0))||(decide (qc>1099511627776))) rfl Kr (fun h7=>?_) (fun h7=>?_)))))))
   ·exact Zf (Zc 1 [] [(4,.i 4)] {} (Zb rfl (TC.ret (Zo (TE.ret [] (.i 4) {} (by unfold Yn;refine eS (fun z=>(.i z:Value)) ?_;exact Ze h1 (Q3 (hR.symm.trans hJ) (Zm h7 (rfl)))))))))
   ·exact Yc (Zc 1 [] [(4,.i 0)] {} (Zb rfl (TC.ret (TE.ret [] (.i 0) {} (by unfold Yn;refine eS (fun z=>(.i z:Value)) ?_;exact Ze h1 (Q3 (hR.symm.trans hJ) (Ze h7 (rfl))))))))
def QO (qb:List (List Int)):Int :=
 cond ((qb.length:Int)==0) (
  0) (
  ((qb[0]?.getD []).length:Int))
theorem G1 (A_costs:Option Addr) (qo:Nat) (qb:List (List Int)) (qq:List (Sl Int)) (w:World) (xj:Rd w 1 A_costs (qq.map Sl.c)) (_hc_costs:qb.length≤qo) (xa:∀ s∈qq,s.rd w 1 ic) (qz:qb=qq.map Sl.l):Calls Tryz.prog 109 #[.slice A_costs qb.length qo] w (Ret w (.int .i64 (QO qb))):=by
 have ki:=xj.short;rw[← Jt qz] at ki
 refine Zp (vs:=[.slice A_costs qb.length qo]) (w:=w) Tryz.func109 rfl Tryz.ntmps109 rfl (Zf (Zc 1 [] [(2,.i 0)] {} (Z1 (Zf (Zc 3 [] [(5,.b ((qb.length:Int)==0))] {} (Zb rfl (TC.cond ((qb.length:Int)==0) rfl Kr (fun h1=>?_) (fun h1=>?_))))))))
 ·exact Zf (Zc 1 [] [(2,.i 0)] {} (Zb rfl (TC.ret (Zo (TE.ret [] (.i 0) {} (by unfold QO;refine eS (fun z=>(.i z:Value)) ?_;exact Zm h1 (rfl)))))))
 ·have vm:=(Yl h1)
  refine Yc (Zc 1 [] [(6,.slice A_costs qb.length qo)] {} (TL.v (sV (Instr.indexAt 132 (.slice A_costs qb.length qo) (.i 0))) 7 (.pointer (some (Ix A_costs (0*1)))) (fun w hM=>Zr (xj.sat hM) (Jt qz) Kr sd sd) {} ?_))
  have w5:=(JD (XS xa 0) (JI qz 0)).short;rw[aD] at w5
  exact TL.v (sV (Instr.loadAt 22 (.pointer (some (Ix A_costs (0*1)))))) 8 (.slice ((qq[0]?.getD Sl.zero).A) ((qb[0]?.getD []).length) ((qq[0]?.getD Sl.zero).cap)) (fun w hM=>(by have h:=Zu (P:=Tryz.prog) (T:=22) (off:=0) (i:=0) (.slice (qq[0]?.getD Sl.zero).A (qq[0]?.getD Sl.zero).l.length (qq[0]?.getD Sl.zero).cap) (xj.sat hM) (Z6 (getD_at _ _ Sl.zero (U9 qz sd))) Kr Kr;rw[(JI qz 0)] at h;exact h)) {} (Zc 5 [] [(2,.i ((qb[0]?.getD []).length:Int))] {} (Zb rfl (TC.ret (TE.ret [] (.i ((qb[0]?.getD []).length:Int)) {} (by unfold QO;refine eS (fun z=>(.i z:Value)) ?_;exact Ze h1 (rfl))))))
def YQ (i:Int) (k:Int) (x:Int) (x_2:Int) (x_3:List Bool) (x_4:List (List Int)):Int :=
 cond (decide (k≥x)) (
  cond ((w64 (k-x))==i) (
   x_2) (
   36028797018963968)) (
  cond ((x_3[k.toNat]?.getD false)) (
   36028797018963968) (
   cond (decide (((x_4[i.toNat]?.getD [])[k.toNat]?.getD 0)<0)) (
    36028797018963968) (
    ((x_4[i.toNat]?.getD [])[k.toNat]?.getD 0))))
theorem Ks {rows:List (List Int)} {c:Int} (h:∀ r∈rows,(r.length:Int)=c) {i:Nat} (hi:i<rows.length):((rows[i]?.getD []).length:Int)=c:=by
 rw[aM hi];exact h _ (cQ hi)
theorem UF (i:Int) (k:Int) (a_x:Addr) (x:Int) (vg:Addr) (x_2:Int) (kq:Addr) (A_x_3:Option Addr) (wv:Nat) (x_3:List Bool) (uu:Addr) (A_x_4:Option Addr) (uc:Nat) (x_4:List (List Int)) (j7:List (Sl Int)) (w:World) (h_x:Rd w 1 (some a_x) [ic x]) (uo:Rd w 1 (some vg) [ic x_2]) (gw:Rd w 1 (some kq) [Sl.c (⟨A_x_3,wv,x_3⟩:Sl Bool)]) (uq:(⟨A_x_3,wv,x_3⟩:Sl Bool).rd w 1 bc) (tm:Rd w 1 (some uu) [#[.slice A_x_4 x_4.length uc]]) (p8:Rd w 1 A_x_4 (j7.map Sl.c)) (_hl_x_4:x_4.length≤uc) (y7:∀ s∈j7,s.rd w 1 ic) (kd:x_4=j7.map Sl.l) (hp:(0≤i∧i<(x_4.length:Int))∧(0≤k∧k<4611686018427387904)∧(0≤x∧x<4611686018427387904)∧(x_3.length:Int)=x∧∀ r∈x_4,(r.length:Int)=x):Calls Tryz.prog 154 #[.int .i64 i,.int .i64 k,.pointer (some a_x),.pointer (some vg),.pointer (some kq),.pointer (some uu)] w (Ret w (.int .i64 (YQ i k x x_2 x_3 x_4))):=by
 refine Zp (vs:=[.i i,.i k,.pointer (some a_x),.pointer (some vg),.pointer (some kq),.pointer (some uu)]) (w:=w) Tryz.func154 rfl Tryz.ntmps154 rfl (Zf (Zc 1 [] [(8,.i 0)] {} (Z1 (TC.block (Zf (Zc 1 [] [(10,.i k)] {} (TL.v (sV (Instr.loadAt 3 (.pointer (some a_x)))) 11 (.i x) (fun w hM=>Zu (off:=0) (.i x) (h_x.sat hM) (XU _) Kr Kr) {} (Zc 4 [] [(9,.b (decide (k≥x)))] {} (Zb rfl (TC.cond (decide (k≥x)) rfl Kr (fun h1=>?_) (fun h1=>?_)))))))))))
 ·refine TC.seq (Zf (Zc 1 [] [(13,.i k)] {} (TL.v (sV (Instr.loadAt 3 (.pointer (some a_x)))) 14 (.i x) (fun w hM=>Zu (off:=0) (.i x) (h_x.sat hM) (XU _) Kr Kr) {} (Zc 5 [] [(17,.b ((w64 (k-x))==i))] {} (Zb rfl (TC.cond ((w64 (k-x))==i) rfl Kr (fun h2=>?_) (fun h2=>?_)))))))
  ·refine Zf (TL.v (sV (Instr.loadAt 3 (.pointer (some vg)))) 18 (.i x_2) (fun w hM=>Zu (off:=0) (.i x_2) (uo.sat hM) (XU _) Kr Kr) {} (Zc 2 [] [(8,.i x_2)] {} (Zb rfl (TC.ret (Zo (ZL (Zo ?_)))))))
   exact TE.ret [] (.i x_2) {} (by unfold YQ;refine eS (fun z=>(.i z:Value)) ?_;exact Zm h1 (Zm h2 (rfl)))
  ·refine Yc (Zc 1 [] [(8,.i 36028797018963968)] {} (Zb rfl (TC.ret (ZL (Zo ?_)))))
   exact TE.ret [] (.i 36028797018963968) {} (by unfold YQ;refine eS (fun z=>(.i z:Value)) ?_;exact Zm h1 (Ze h2 (rfl)))
 ·have vm:=(Zv h1)
  refine Zf (TL.v (sV (Instr.loadAt 137 (.pointer (some kq)))) 20 (.slice A_x_3 x_3.length wv) (fun w hM=>Zu (off:=0) (.slice A_x_3 x_3.length wv) (gw.sat hM) (XU _) Kr Kr) {} (Zc 2 [] [(21,.i k)] {} (TL.v (sV (Instr.indexAt 137 (.slice A_x_3 x_3.length wv) (.i k))) 22 (.pointer (some (Ix A_x_3 (k.toNat*1)))) (fun w hM=>Zr (uq.rd.sat hM) (by simp) Kr (by (try have kr_:=Ks hp.2.2.2.2 (i:=i.toNat) (by omega));exact sd) (by (try have kr_:=Ks hp.2.2.2.2 (i:=i.toNat) (by omega));exact sd)) {} (TL.v (sV (Instr.loadAt 4 (.pointer (some (Ix A_x_3 (k.toNat*1)))))) 23 (.b ((x_3[k.toNat]?.getD false))) (fun w hM=>Zu (off:=0) (i:=k.toNat) (.b ((x_3[k.toNat]?.getD false))) (uq.rd.sat hM) (Z6 (getD_at _ _ false (by (try have kr_:=Ks hp.2.2.2.2 (i:=i.toNat) (by omega));exact sd))) Kr Kr) {} (Zc 5 [] [(24,.b ((x_3[k.toNat]?.getD false)))] {} (Yy 24 ((x_3[k.toNat]?.getD false)) Kr (fun h3=>?_) (fun h3=>?_)))))))
  ·refine Zc 15 [] [(19,.b true)] {} (Zb rfl (Xg rfl Kr (Zf (Zc 1 [] [(8,.i 36028797018963968)] {} (Zb rfl (TC.ret (ZL (Zo ?_))))))))
   exact TE.ret [] (.i 36028797018963968) {} (by unfold YQ;refine eS (fun z=>(.i z:Value)) ?_;exact Ze h1 (Zm h3 (rfl)))
  ·refine TL.v (sV (Instr.loadAt 132 (.pointer (some uu)))) 25 (.slice A_x_4 x_4.length uc) (fun w hM=>(by have h:=Zu (P:=Tryz.prog) (T:=132) (off:=0) (i:=0) (A:=some uu) (.slice A_x_4 x_4.length uc) (tm.sat hM) (XU _) Kr Kr;exact h)) {} (Zc 7 [] [(26,.i i)] {} (TL.v (sV (Instr.indexAt 132 (.slice A_x_4 x_4.length uc) (.i i))) 27 (.pointer (some (Ix A_x_4 (i.toNat*1)))) (fun w hM=>Zr (p8.sat hM) (Jt kd) Kr (by (try have kr_:=Ks hp.2.2.2.2 (i:=i.toNat) (by omega));exact sd) (by (try have kr_:=Ks hp.2.2.2.2 (i:=i.toNat) (by omega));exact sd)) {} ?_))
   have w5:=(JD (XS y7 i.toNat) (JI kd i.toNat)).short;rw[aD] at w5
   refine TL.v (sV (Instr.loadAt 22 (.pointer (some (Ix A_x_4 (i.toNat*1)))))) 28 (.slice ((j7[i.toNat]?.getD Sl.zero).A) ((x_4[i.toNat]?.getD []).length) ((j7[i.toNat]?.getD Sl.zero).cap)) (fun w hM=>(by have h:=Zu (P:=Tryz.prog) (T:=22) (off:=0) (i:=i.toNat) (.slice (j7[i.toNat]?.getD Sl.zero).A (j7[i.toNat]?.getD Sl.zero).l.length (j7[i.toNat]?.getD Sl.zero).cap) (p8.sat hM) (Z6 (getD_at _ _ Sl.zero (U9 kd (by (try have kr_:=Ks hp.2.2.2.2 (i:=i.toNat) (by omega));exact sd)))) Kr Kr;rw[(JI kd i.toNat)] at h;exact h)) {} (Zc 10 [] [(29,.i k)] {} (TL.v (sV (Instr.indexAt 22 (.slice ((j7[i.toNat]?.getD Sl.zero).A) ((x_4[i.toNat]?.getD []).length) ((j7[i.toNat]?.getD Sl.zero).cap)) (.i k))) 30 (.pointer (some ((((j7[i.toNat]?.getD Sl.zero).A).getD Yz).add (k.toNat*1)))) (fun w hM=>Zr (JD ((XS y7 i.toNat).sat hM) (JI kd i.toNat)) (by simp) Kr (by (try have kr_:=Ks hp.2.2.2.2 (i:=i.toNat) (by omega));exact sd) (by (try have kr_:=Ks hp.2.2.2.2 (i:=i.toNat) (by omega));exact sd)) {} (TL.v (sV (Instr.loadAt 3 (.pointer (some ((((j7[i.toNat]?.getD Sl.zero).A).getD Yz).add (k.toNat*1)))))) 31 (.i ((x_4[i.toNat]?.getD [])[k.toNat]?.getD 0)) (fun w hM=>Zu (off:=0) (i:=k.toNat) (.i ((x_4[i.toNat]?.getD [])[k.toNat]?.getD 0)) (JD ((XS y7 i.toNat).sat hM) (JI kd i.toNat)) (Z6 (getD_at _ _ 0 (by (try have kr_:=Ks hp.2.2.2.2 (i:=i.toNat) (by omega));exact sd))) Kr Kr) {} (Zc 15 [] [(19,.b (decide (((x_4[i.toNat]?.getD [])[k.toNat]?.getD 0)<0)))] {} (Zb rfl (TC.cond (decide (((x_4[i.toNat]?.getD [])[k.toNat]?.getD 0)<0)) rfl Kr (fun h4=>?_) (fun h4=>?_)))))))
   ·refine Zf (Zc 1 [] [(8,.i 36028797018963968)] {} (Zb rfl (TC.ret (ZL (Zo ?_)))))
    exact TE.ret [] (.i 36028797018963968) {} (by unfold YQ;refine eS (fun z=>(.i z:Value)) ?_;exact Ze h1 (Ze h3 (Zm h4 (rfl))))
   ·have yq:=(Zv h4)
    refine TC.skip (ZY (YC (TL.v (sV (Instr.loadAt 132 (.pointer (some uu)))) 34 (.slice A_x_4 x_4.length uc) (fun w hM=>(by have h:=Zu (P:=Tryz.prog) (T:=132) (off:=0) (i:=0) (A:=some uu) (.slice A_x_4 x_4.length uc) (tm.sat hM) (XU _) Kr Kr;exact h)) {} (Zc 2 [] [(35,.i i)] {} (TL.v (sV (Instr.indexAt 132 (.slice A_x_4 x_4.length uc) (.i i))) 36 (.pointer (some (Ix A_x_4 (i.toNat*1)))) (fun w hM=>Zr (p8.sat hM) (Jt kd) Kr (by (try have kr_:=Ks hp.2.2.2.2 (i:=i.toNat) (by omega));exact sd) (by (try have kr_:=Ks hp.2.2.2.2 (i:=i.toNat) (by omega));exact sd)) {} ?_)))))
    have lz:=(JD (XS y7 i.toNat) (JI kd i.toNat)).short;rw[aD] at lz
    exact TL.v (sV (Instr.loadAt 22 (.pointer (some (Ix A_x_4 (i.toNat*1)))))) 37 (.slice ((j7[i.toNat]?.getD Sl.zero).A) ((x_4[i.toNat]?.getD []).length) ((j7[i.toNat]?.getD Sl.zero).cap)) (fun w hM=>(by have h:=Zu (P:=Tryz.prog) (T:=22) (off:=0) (i:=i.toNat) (.slice (j7[i.toNat]?.getD Sl.zero).A (j7[i.toNat]?.getD Sl.zero).l.length (j7[i.toNat]?.getD Sl.zero).cap) (p8.sat hM) (Z6 (getD_at _ _ Sl.zero (U9 kd (by (try have kr_:=Ks hp.2.2.2.2 (i:=i.toNat) (by omega));exact sd)))) Kr Kr;rw[(JI kd i.toNat)] at h;exact h)) {} (Zc 5 [] [(38,.i k)] {} (TL.v (sV (Instr.indexAt 22 (.slice ((j7[i.toNat]?.getD Sl.zero).A) ((x_4[i.toNat]?.getD []).length) ((j7[i.toNat]?.getD Sl.zero).cap)) (.i k))) 39 (.pointer (some ((((j7[i.toNat]?.getD Sl.zero).A).getD Yz).add (k.toNat*1)))) (fun w hM=>Zr (JD ((XS y7 i.toNat).sat hM) (JI kd i.toNat)) (by simp) Kr (by (try have kr_:=Ks hp.2.2.2.2 (i:=i.toNat) (by omega));exact sd) (by (try have kr_:=Ks hp.2.2.2.2 (i:=i.toNat) (by omega));exact sd)) {} (TL.v (sV (Instr.loadAt 3 (.pointer (some ((((j7[i.toNat]?.getD Sl.zero).A).getD Yz).add (k.toNat*1)))))) 40 (.i ((x_4[i.toNat]?.getD [])[k.toNat]?.getD 0)) (fun w hM=>Zu (off:=0) (i:=k.toNat) (.i ((x_4[i.toNat]?.getD [])[k.toNat]?.getD 0)) (JD ((XS y7 i.toNat).sat hM) (JI kd i.toNat)) (Z6 (getD_at _ _ 0 (by (try have kr_:=Ks hp.2.2.2.2 (i:=i.toNat) (by omega));exact sd))) Kr Kr) {} (Zc 8 [] [(8,.i ((x_4[i.toNat]?.getD [])[k.toNat]?.getD 0))] {} (Zb rfl (TC.ret (TE.ret [] (.i ((x_4[i.toNat]?.getD [])[k.toNat]?.getD 0)) {} (by unfold YQ;refine eS (fun z=>(.i z:Value)) ?_;exact Ze h1 (Ze h3 (Ze h4 (rfl)))))))))))
end Go.Sky
end
section
namespace Go.Sky
open Go Go.Eng Go.Proofs
def Xs:Nat→Nat→(List Int)→(List Int)
 | 0,_,low=>low
 | m+1,k_2,low=>Xs m (k_2+1) (low.set k_2 1152921504606846976)
def Xa (qb:List (List Int)) (qc:Int) (from_:Int) (taken:List Bool) (k:Nat) (row:List Int) (at_:Int) (u_3:List Int) (v_3:List Int) (used:List Bool):Nat→Nat→Int→Int→(List Int)→(List Int)→(Int×Int×List Int×List Int)
  | 0,_,delta,next,jb,xm=>(delta,next,jb,xm)
  | m+1,k_3,delta,next,jb,xm=>cond (((used.set at_.toNat true)[(1+(k_3:Int)).toNat]?.getD false)) (
      Xa qb qc from_ taken k row at_ u_3 v_3 used m (k_3+1) delta next jb xm) (
      let r3:=YQ (w64 (((row.set 0 (1+(k:Int)))[at_.toNat]?.getD 0)-1)) (w64 ((1+(k_3:Int))-1)) (((qb.drop from_.toNat)[0]?.getD []).length:Int) qc taken (qb.drop from_.toNat)
      YB (cond (decide ((w64 ((w64 (r3-(u_3[((row.set 0 (1+(k:Int)))[at_.toNat]?.getD 0).toNat]?.getD 0)))-(v_3[(1+(k_3:Int)).toNat]?.getD 0)))<(xm[(1+(k_3:Int)).toNat]?.getD 0))) (
                        ((jb.set ((1+(k_3:Int)).toNat) at_),(xm.set ((1+(k_3:Int)).toNat) (w64 ((w64 (r3-(u_3[((row.set 0 (1+(k:Int)))[at_.toNat]?.getD 0).toNat]?.getD 0)))-(v_3[(1+(k_3:Int)).toNat]?.getD 0)))))) (
                        (jb,xm))) (fun (wm,jn) =>
        cond (decide ((jn[(1+(k_3:Int)).toNat]?.getD 0)<delta)) (
          Xa qb qc from_ taken k row at_ u_3 v_3 used m (k_3+1) (jn[(1+(k_3:Int)).toNat]?.getD 0) (1+(k_3:Int)) wm jn) (
          Xa qb qc from_ taken k row at_ u_3 v_3 used m (k_3+1) delta next wm jn)))
def X7 (k:Nat) (row:List Int) (ze:Int):List Bool→Nat→(List Int)→(List Int)→(List Int)→(List Int×List Int×List Int)
 | [],_,u_5,v_5,xn=>(u_5,v_5,xn)
 | x::xs,k_4,u_5,v_5,xn=>cond x (
   X7 k row ze xs (k_4+1) (u_5.set (((row.set 0 (1+(k:Int)))[k_4]?.getD 0).toNat) (w64 ((u_5[((row.set 0 (1+(k:Int)))[k_4]?.getD 0).toNat]?.getD 0)+ze))) (v_5.set k_4 (w64 ((v_5[k_4]?.getD 0)-ze))) xn) (
   X7 k row ze xs (k_4+1) u_5 v_5 (xn.set k_4 (w64 ((xn[k_4]?.getD 0)-ze))))
def QB (qb:List (List Int)) (qc:Int) (from_:Int) (taken:List Bool) (r2:Int) (k:Nat) (row:List Int):Nat→Int→(List Int)→(List Int)→(List Int)→(List Int)→(List Bool)→Option (Int×List Int×List Int×List Int×List Int×List Bool)
 | 0,_,_,_,_,_,_=>none
 | m+1,at_,u_3,v_3,ke,kf,used=>YB (Xa qb qc from_ taken k row at_ u_3 v_3 used r2.toNat 0 1152921504606846976 0 ke kf) (fun (ze,zx,kg,k6) =>
   YB (X7 k row ze (used.set at_.toNat true) 0 u_3 v_3 k6) (fun (u_6,v_6,wo) =>
    cond (((row.set 0 (1+(k:Int)))[zx.toNat]?.getD 0)==0) (
     some ((zx,u_6,v_6,kg,wo,(used.set at_.toNat true)))) (
     QB qb qc from_ taken r2 k row m zx u_6 v_6 kg wo (used.set at_.toNat true))))
def XQ (xf:List Int):Nat→Int→(List Int)→Option (List Int)
 | 0,_,_=>none
 | m+1,zt,x6=>cond (zt != 0) (
   XQ xf m (xf[zt.toNat]?.getD 0) (x6.set zt.toNat (x6[(xf[zt.toNat]?.getD 0).toNat]?.getD 0))) (
   some (x6))
def J6 (qb:List (List Int)) (qc:Int) (from_:Int) (taken:List Bool) (r2:Int):Nat→Nat→(List Int)→(List Int)→(List Int)→(List Int)→(List Int×List Int×List Int×List Int)
 | 0,_,u,v,row,way=>(u,v,row,way)
 | m+1,k,u,v,row,way=>YB (Xs ((w64 (r2+1)).toNat) 0 (List.replicate ((w64 (r2+1)).toNat) (0:Int))) (fun jx =>
   YB ((QB qb qc from_ taken r2 k row 100 0 u v way jx (List.replicate ((w64 (r2+1)).toNat) false)).getD default) (fun (yj,u_4,v_4,xf,_,_) =>
    YB ((XQ xf 100 yj (row.set 0 (1+(k:Int)))).getD default) (fun yk =>
     J6 qb qc from_ taken r2 m (k+1) u_4 v_4 yk xf)))
def Jd (qb:List (List Int)) (qc:Int) (from_:Int) (taken:List Bool) (qv:List Int):Nat→Nat→Int→Int
 | 0,_,wq=>wq
 | m+1,k_5,wq=>cond (decide ((qv[(1+(k_5:Int)).toNat]?.getD 0)>0)) (
   let r4:=YQ (w64 ((qv[(1+(k_5:Int)).toNat]?.getD 0)-1)) (w64 ((1+(k_5:Int))-1)) (((qb.drop from_.toNat)[0]?.getD []).length:Int) qc taken (qb.drop from_.toNat)
   Jd qb qc from_ taken qv m (k_5+1) (w64 (wq+r4))) (
   Jd qb qc from_ taken qv m (k_5+1) wq)
def ZM (qb:List (List Int)) (qc:Int) (from_:Int) (taken:List Bool):Int :=
 let r1:=((qb.drop from_.toNat).length:Int)
 cond (r1==0) (
  0) (
  let r2:=w64 ((((qb.drop from_.toNat)[0]?.getD []).length:Int)+r1)
  YB (J6 qb qc from_ taken r2 r1.toNat 0 (List.replicate ((w64 (r1+1)).toNat) (0:Int)) (List.replicate ((w64 (r2+1)).toNat) (0:Int)) (List.replicate ((w64 (r2+1)).toNat) (0:Int)) (List.replicate ((w64 (r2+1)).toNat) (0:Int))) (fun (_,_,qv,_) =>
   YB (Jd qb qc from_ taken qv r2.toNat 0 0) (fun wc =>
    wc)))
end Go.Sky
end
