/- Lemmas toward the given statement (part 6 of 20): Rb Wb Va Vb. Each theorem states its own conditions; nothing is assumed beyond them. -/
import Derived.Test.YtjggkpkehdnhiaaGreatDoorBx05
import Derived.Test.YtjggkpkehdnhiaaGreatDoorBx03
import Derived.Test.YtjggkpkehdnhiaaGreatDoorRows
import Derived.Test.YtjggkpkehdnhiaaGreatDoorBx01
import Derived.Test.YtjggkpkehdnhiaaGreatDoorBx02
section
namespace Go.Sky
open Go Go.Eng Go.Proofs
open Go.Srt
set_option maxRecDepth 100000 in
theorem CS (A_x:Option Addr) (c_x:Nat) (x:List Zg) (w:World) (hM:Sat ⟨w,Xj [.inr (Own A_x c_x 42 6 (x.map Zg.c))]⟩ [.inr (Own A_x c_x 42 6 (x.map Zg.c))] w):Calls Tryz.prog 84 #[.slice A_x x.length c_x,.func (.func 85) #[] #[]] w (QW (Γ:=(List Zg)) ⟨w,Xj [.inr (Own A_x c_x 42 6 (x.map Zg.c))]⟩ (fun _=>.tuple #[]) (fun g=>[.inr (XF (g.length=x.length∧g=VQ x)),.inr (Own A_x c_x 42 6 (g.map Zg.c))])):=by
 exact Me A_x c_x _ x w hM
def Ji:List Zg→Nat→((Unit) ⊕ ((List Zg)×Int))
 | [],_=>.inl ()
 | x::xs,k=>let r1:=Zz x
  cond (r1 != 0) (
   .inr ([],r1)) (
   Ji xs (k+1))
def Xw (band:Int):List Zg→Nat→(List Zg)→(List Zg)
 | [],_,out=>out
 | x_2::xs,k_2,out=>let r5:=Xd out x_2 band
  cond (!r5) (
   Xw band xs (k_2+1) (out++([x_2]))) (
   Xw band xs (k_2+1) out)
def Yr (l:List Zg) (band:Int):List Zg×Int :=
 cond (decide ((l.length:Int)>128)) (
  ([],2)) (
  Sum.elim (fun _ =>
   let r2:=JB band
   cond r2 (
    ([],4)) (
    let r3:=Yp l
    let r4:=VQ r3
    Y6 (Xw band r4 0 ([]:List Zg)) (fun out_2 =>
     (out_2,0)))) (fun r=>r) (Ji l 0))
set_option maxHeartbeats 4000000 in
set_option maxRecDepth 100000 in
theorem Dp (A_l:Option Addr) (c_l:Nat) (l:List Zg) (band:Int) (w:World) (h_l:Rd w 6 A_l (l.map Zg.c)) (hc_l:l.length≤c_l):Calls Tryz.prog 37 #[.slice A_l l.length c_l,.int .i64 band] w (QW (Γ:=(Option Addr×Nat)) (cx w) (fun g=>.tuple #[.slice g.1 ((Yr l band).1.length) g.2,.int .i64 ((Yr l band).2)]) (fun g=>[.inr (Own g.1 g.2 42 6 (((Yr l band).1).map Zg.c))])):=by
 have s_l:=h_l.short;rw[List.length_map] at s_l
 refine Zk (vs:=[.slice A_l l.length c_l,.i band]) (w:=w) Tryz.func37 rfl Tryz.ntmps37 rfl (TC.sr (TL.nw 3 (fun b1=>.p0 b1) (fun b1=>Bk b1 #[.i band] 3) (fun b1=>{}) (fun b1=>TL.r 3 [] [(4,.slice none 0 0),(5,.i 0)] {} (TL.ns (TC.sr (TL.r 3 [] [(15,.b (decide ((l.length:Int)>128)))] {} (TL.next rfl (TC.cond (decide ((l.length:Int)>128)) rfl Kr (fun h1=>?_) (fun h1=>?_)))))))))
 ·refine TC.sr (TL.r 2 [] [(4,.slice none 0 0),(5,.i 2)] {} (TL.next rfl (TC.ret (TE.rt ?_))))
  have e:Yr l band=([],2):=by unfold Yr;exact Zj h1 (rfl)
  refine TE.conv [Ow none 0 42 6 (([]:List Zg).map Zg.c),Bk b1 #[.i band] 3] (fun _ hM=>hM.emptyrow none 42 6) ?_
  rw[e]
  exact TE.retM (.inl rfl) (none,0) [] (.tuple #[.slice none 0 0,.i 2]) {} rfl (fun _ hM=>hM.sub (sb 1))
 ·have q1_0:=(Zq h1)
  refine TC.sn (TC.seq (TC.sr (TL.r 3 [] [(16,.slice A_l l.length c_l),(17,.i (l.length:Int)),(18,.i 0)] {} (TL.next rfl ?_))))
  obtain⟨R2,hR⟩:∃ R,R=Ji l 0:=⟨_,rfl⟩
  refine TC.cut (S:=Unit) (fun (_:Unit)=>[(0,.slice A_l l.length c_l),(3,.p0 b1)]) (fun (_:Unit)=>[Bk b1 #[.i band] 3]) (fun (_:Unit)=>R2=.inl ()) ?_ ?_
  ·refine TC.block (TC.lw (X:=Nat) (fun k=>[(0,.slice A_l l.length c_l),(3,.p0 b1),(16,.slice A_l l.length c_l),(17,.i (l.length:Int)),(18,.i (k:Int))]) (fun k=>[Bk b1 #[.i band] 3]) (fun k=>l.length-k) (fun k=>k≤l.length∧R2=Ji (l.drop k) k) ?_ 0 ⟨Nat.zero_le _,hR⟩ Kr (sb 1))
   rintro k ⟨hk,hI⟩
   refine TC.sr (TL.r 1 [] [(19,.b (decide ((k:Int)<(l.length:Int))))] {} (TL.ns (TC.cond (decide ((k:Int)<(l.length:Int))) rfl Kr (fun h2=>?_) (fun h2=>?_))))
   ·have hlt:=ltN h2
    obtain⟨x,hx⟩:=elN hlt
    have hd:=drop_at hx
    refine TC.sn (TC.seq (TC.block (TC.sr (TL.v (sV (Instr.indexAt 52 (.slice A_l l.length c_l) (.i (k:Int)))) 20 (.pointer (some (Ix A_l (k*6)))) (fun w hM=>Zp (h_l.sat hM) (by simp) Kr (by (try have e3_:r3.length=l.length:=(by rw[← hr3];rfl));exact sd) (by (try have e3_:r3.length=l.length:=(by rw[← hr3];rfl));exact sd)) {} (TL.v (sV (Instr.loadAt 42 (.pointer (some (Ix A_l (k*6)))))) 21 (Zg.v x) (fun w hM=>Z6 (n:=6) (off:=0) (i:=k) (Zg.v x) (h_l.sat hM) (Z8 hx) Kr Kr Kr) {} (TL.nw 7 (fun b2=>.p0 b2) (fun b2=>Bk b2 (Zg.c Zg.zero) 42) (fun b2=>{}) (fun b2=>TL.s 0 (Bk b2 (Zg.c x) 42) (fun _=>{}) (TL.nr (TL.r 1 [0] [(22,Zg.v x)] {} (TL.c 23 (Zz x) (fun r1=>.i r1) (fun w _=>Xq x w) {} (fun r1 hr1=>TL.r 3 [] [(8,.i r1)] {} (TL.nr (TL.r 2 [] [(25,.b (r1 != 0))] {} (TL.next rfl (TC.cond (r1 != 0) rfl Kr (fun h3=>?_) (fun h3=>?_))))))))))))))))
    ·refine TC.sr (TL.r 3 [] [(4,.slice none 0 0),(5,.i r1)] {} (TL.next rfl (TC.ret (TE.rb (TE.rt (TE.rt (TE.rb (TE.rt (TE.rt ?_)))))))))
     have e:Yr l band=([],r1):=by subst hr1;unfold Yr;exact Zb h1 (X3 (hR.symm.trans (hI.trans (by rw[hd];exact Zj h3 (rfl)))) rfl)
     refine TE.conv [Ow none 0 42 6 (([]:List Zg).map Zg.c),Bk b2 (Zg.c x) 42,Bk b1 #[.i band] 3] (fun _ hM=>hM.emptyrow none 42 6) ?_
     rw[e]
     exact TE.retM (.inl rfl) (none,0) [] (.tuple #[.slice none 0 0,.i r1]) {} rfl (fun _ hM=>hM.sub (sb 1))
    ·have q3_0:=(QQ h3)
     exact TC.skip (TE.nb (TE.next (TC.region (TL.r 2 [] [(18,.i (w64 ((k:Int)+1)))] {} (TL.done rfl (TE.rw 18 (.i (w64 ((k:Int)+1))) (.i ((k+1:Nat):Int)) Kr (ZF k (by (try have e3_:r3.length=l.length:=(by rw[← hr3];rfl));omega)) (TE.again (x:=k) (k+1) ⟨by omega,hI.trans (by subst hr1;rw[hd];exact Zb h3 (rfl))⟩ (mN hlt) Kr (sb 2))))))))
   ·have hd:=Qc h2
    refine TC.exit (TE.et (TE.et (TE.exit_same ?_)))
    exact TE.cut () (hI.trans (by rw[hd];exact rfl)) Kr (sb 1)
  ·intro _ hJ
   refine TE.next (TC.seq (TC.sr (TL.r 1 [0] [(28,.i band)] {} (TL.c 29 (JB band) (fun r2=>.b r2) (fun w _=>Gl band w) {} (fun r2 hr2=>TL.next rfl (TC.cond r2 rfl Kr (fun h4=>?_) (fun h4=>?_)))))))
   ·refine TC.sr (TL.r 2 [] [(4,.slice none 0 0),(5,.i 4)] {} (TL.next rfl (TC.ret (TE.rt ?_))))
    have e:Yr l band=([],4):=by subst hr2;unfold Yr;exact Zb h1 (Xk (hR.symm.trans hJ) (Zj h4 (rfl)))
    refine TE.conv [Ow none 0 42 6 (([]:List Zg).map Zg.c),Bk b1 #[.i band] 3] (fun _ hM=>hM.emptyrow none 42 6) ?_
    rw[e]
    exact TE.retM (.inl rfl) (none,0) [] (.tuple #[.slice none 0 0,.i 4]) {} rfl (fun _ hM=>hM.sub (sb 1))
   ·refine TC.snr (TL.r 1 [] [(30,.slice A_l l.length c_l)] {} (TL.cn (Γ:=AN) 31 (Yp l) (fun r3 g=>.slice g.1 r3.length g.2) (fun r3 g=>[Ow g.1 g.2 42 6 (r3.map Zg.c)]) (fun w hM=>JM A_l c_l l w (h_l.sat hM) hc_l (by (try have e3_:r3.length=l.length:=(by rw[← hr3];rfl));exact sg)) {} (fun r3 hr3=>?_)))
    rintro⟨A,c⟩
    refine TL.know (fun w hM=>hM.short_at 0 rfl) (fun s_r3_0=>TL.r 3 [] [(9,.slice A r3.length c)] {} (TL.nr (TL.r 1 [] [(32,.slice A r3.length c)] {} (TL.callM (Γ:=(List Zg)) (fun _=>.tuple #[]) (fun g=>[.inr (XF (g.length=r3.length∧g=VQ r3)),Ow A c 42 6 (g.map Zg.c)]) [Ow A c 42 6 (r3.map Zg.c)] [Bk b1 #[.i band] 3] (some 33) (fun _=>[(3,.p0 b1),(9,.slice A r3.length c)]) (fun w hM=>CS A c r3 w hM.pass) Kr (fun g=>Kr) ?_))))
    rintro r4
    refine TL.conv [.inr (XF (r4.length=r3.length∧r4=VQ r3)),Ow A c 42 6 (r4.map Zg.c),Bk b1 #[.i band] 3] (fun _ hM=>hM) (TL.know (fun w hM=>hM.fact_at 0 rfl) (fun hp_sortSp=>TL.forget [Ow A c 42 6 (r4.map Zg.c),Bk b1 #[.i band] 3] (.cons _ (List.Sublist.refl _)) ?_))
    have hl_r4:r4.length=r3.length:=hp_sortSp.1
    refine TL.rw 9 (.slice A r3.length c) (.slice A r4.length c) Kr (by rw[hl_r4]) ?_
    have hr4:VQ r3=r4:=(hp_sortSp.2).symm
    refine TL.nr (TL.r 1 [] [(10,.slice none 0 0)] {} (TL.ns (TC.sr (TL.r 3 [] [(34,.slice A r4.length c),(35,.i (r4.length:Int)),(36,.i 0)] {} (TL.next rfl (TC.conv [Ow none 0 42 6 (([]:List Zg).map Zg.c),Ow A c 42 6 (r4.map Zg.c),Bk b1 #[.i band] 3] (fun _ hM=>hM.emptyrow none 42 6) ?_))))))
    obtain⟨R6,hR_2⟩:∃ R,R=Xw band r4 0 ([]:List Zg):=⟨_,rfl⟩
    refine TC.cut (S:=(List Zg)×(Option Addr)×Nat) (fun (out_2,A_out_2,c_out_2)=>[(10,.slice A_out_2 out_2.length c_out_2)]) (fun (out_2,A_out_2,c_out_2)=>[Ow A_out_2 c_out_2 42 6 (out_2.map Zg.c)]) (fun (out_2,A_out_2,c_out_2)=>R6=out_2∧out_2.length≤r4.length) ?_ ?_
    ·refine TC.block (TC.lw (X:=Nat×(List Zg)×(Option Addr)×Nat) (fun (k_2,out,A_out,c_out)=>[(3,.p0 b1),(10,.slice A_out out.length c_out),(34,.slice A r4.length c),(35,.i (r4.length:Int)),(36,.i (k_2:Int))]) (fun (k_2,out,A_out,c_out)=>[Ow A_out c_out 42 6 (out.map Zg.c),Ow A c 42 6 (r4.map Zg.c),Bk b1 #[.i band] 3]) (fun (k_2,out,A_out,c_out)=>r4.length-k_2) (fun (k_2,out,A_out,c_out)=>k_2≤r4.length∧R6=Xw band (r4.drop k_2) k_2 out∧out.length≤k_2) ?_ (0,([]:List Zg),none,0) ⟨Nat.zero_le _,hR_2,sz⟩ Kr (sb 7))
     rintro⟨k_2,out,A_out,c_out⟩ ⟨hk_2,hI_2,hl_out⟩
     refine TC.sr (TL.r 1 [] [(37,.b (decide ((k_2:Int)<(r4.length:Int))))] {} (TL.ns (TC.cond (decide ((k_2:Int)<(r4.length:Int))) rfl Kr (fun h5=>?_) (fun h5=>?_))))
     ·have hlt_2:=ltN h5
      obtain⟨x_2,hx_2⟩:=elN hlt_2
      have hd_2:=drop_at hx_2
      refine TC.sn (TC.seq (TC.block (TC.sr (TL.v (sV (Instr.indexAt 52 (.slice A r4.length c) (.i (k_2:Int)))) 38 (.pointer (some (Ix A (k_2*6)))) (fun w hM=>Zp (hM.rd_at 1 rfl) (by simp) Kr (by (try have e3_:r3.length=l.length:=(by rw[← hr3];rfl));exact sd) (by (try have e3_:r3.length=l.length:=(by rw[← hr3];rfl));exact sd)) {} (TL.v (sV (Instr.loadAt 42 (.pointer (some (Ix A (k_2*6)))))) 39 (Zg.v x_2) (fun w hM=>Z6 (n:=6) (off:=0) (i:=k_2) (Zg.v x_2) (hM.rd_at 1 rfl) (Z8 hx_2) Kr Kr Kr) {} (TL.nw 12 (fun b3=>.p0 b3) (fun b3=>Bk b3 (Zg.c Zg.zero) 42) (fun b3=>{}) (fun b3=>TL.s 0 (Bk b3 (Zg.c x_2) 42) (fun _=>{}) (TL.nr (TL.r 2 [] [(40,.slice A_out out.length c_out),(41,.func (.func 87) #[] #[.p0 b3,.p0 b1])] {} (TL.c 42 (Xd out x_2 band) (fun r5=>.b r5) (fun w hM=>U1 A_out c_out out ⟨b3,0,none⟩ x_2 ⟨b1,0,none⟩ band w (hM.rd_at 1 rfl) (hM.le_at 1 rfl) (Rd.lit hM 0 _ rfl Kr Kr Kr) (Rd.lit hM 3 _ rfl Kr Kr Kr)) {} (fun r5 hr5=>TL.r 4 [] [(43,.b (!r5))] {} (TL.next rfl (TC.cond (!r5) rfl Kr (fun h6=>?_) (fun h6=>?_))))))))))))))
      ·refine TC.region (TL.r 2 [0] [(44,.slice A_out out.length c_out),(45,Zg.v x_2)] {} (TL.nw 46 (fun b4=>.slice (Pa b4) 1 1) (fun b4=>Bk b4 (Zg.c x_2) 42) (fun b4=>{}) (fun b4=>TL.os (Γ:=AN) (sV (Builtin.append_ #[52,52] 52 #[.slice A_out out.length c_out,.slice (Pa b4) 1 1])) 47 (fun g=>.slice g.1 (out++([x_2])).length g.2) 2 (fun g=>Ow g.1 g.2 42 6 ((out++([x_2])).map Zg.c)) (Qx (bytes:=48) 52 2 ([x_2]) Kr rfl rfl Zg.one rfl (fun w hM=>(Rd.lit hM 0 _ rfl Kr Kr Kr)) rfl (by (try have e3_:r3.length=l.length:=(by rw[← hr3];rfl));exact sa)) {} ?_)))
       rintro⟨A_2,c_2⟩
       exact TL.r 5 [] [(10,.slice A_2 ((out++([x_2])).length) c_2)] {} (TL.done rfl (TE.nb (TE.next (TC.region (TL.r 2 [] [(36,.i (w64 ((k_2:Int)+1)))] {} (TL.done rfl (TE.rw 36 (.i (w64 ((k_2:Int)+1))) (.i ((k_2+1:Nat):Int)) Kr (ZF k_2 (by (try have e3_:r3.length=l.length:=(by rw[← hr3];rfl));omega)) (TE.again (x:=(k_2,out,A_out,c_out)) (k_2+1,(out++([x_2])),A_2,c_2) ⟨by omega,hI_2.trans (by subst hr2 hr3 hr4 hr5;rw[hd_2];exact Zj h6 (rfl)),(by (try have e3_:r3.length=l.length:=(by rw[← hr3];rfl));exact sl)⟩ (mN hlt_2) Kr (sb 28)))))))))
      ·exact TC.skip (TE.nb (TE.next (TC.region (TL.r 2 [] [(36,.i (w64 ((k_2:Int)+1)))] {} (TL.done rfl (TE.rw 36 (.i (w64 ((k_2:Int)+1))) (.i ((k_2+1:Nat):Int)) Kr (ZF k_2 (by (try have e3_:r3.length=l.length:=(by rw[← hr3];rfl));omega)) (TE.again (x:=(k_2,out,A_out,c_out)) (k_2+1,out,A_out,c_out) ⟨by omega,hI_2.trans (by subst hr2 hr3 hr4 hr5;rw[hd_2];exact Zb h6 (rfl)),(by (try have e3_:r3.length=l.length:=(by rw[← hr3];rfl));exact sl)⟩ (mN hlt_2) Kr (sb 14))))))))
     ·have hd_2:=Qc h5
      refine TC.exit (TE.et (TE.et (TE.exit_same ?_)))
      exact TE.cut (out,A_out,c_out) (⟨hI_2.trans (by subst hr2 hr3 hr4;rw[hd_2];exact rfl),(by (try have e3_:r3.length=l.length:=(by rw[← hr3];rfl));exact sl)⟩) Kr (sb 1)
    ·rintro⟨out_2,A_out_2,c_out_2⟩ ⟨hJ_2,hl_out_2⟩
     refine TE.nr (TL.r 3 [] [(4,.slice A_out_2 out_2.length c_out_2),(5,.i 0)] {} (TL.next rfl (TC.ret ?_)))
     have e:Yr l band=(out_2,0):=by subst hr2 hr3 hr4;unfold Yr;exact Zb h1 (Xk (hR.symm.trans hJ) (Zb h4 (Ye (hR_2.symm.trans hJ_2) (rfl))))
     rw[e]
     exact TE.retM (.inl rfl) (A_out_2,c_out_2) [] (.tuple #[.slice A_out_2 out_2.length c_out_2,.i 0]) {} rfl (fun _ hM=>hM.sub (sb 1))
end Go.Sky
end
section
namespace Go.Sky
open Go Go.Eng Go.Proofs
def YW (t:Track) (s:Zg) (band:Int):Bool×Int :=
 let r1:=YE t
 cond (r1 != 0) (
  (false,r1)) (
  let r2:=Zz s
  cond (r2 != 0) (
   (false,r2)) (
   cond ((decide (band<0))||(decide (band>60000))) (
    (false,4)) (
    cond (t.Time != s.Time) (
     (false,12)) (
     let r3:=ZV t.At s.At (w64 (t.Radius+s.Error))
     cond (r3&&(decide ((Q4 (w64 (t.Height-s.Height)) (w64 (s.Height-t.Height)))≤band))) (
      cond (t.Code==s.Code) (
       (true,0)) (
       cond (t.Code==(-1)) (
        (true,0)) (
        (s.Code==(-1),0)))) (
      (false,0))))))
set_option maxHeartbeats 4000000 in
set_option maxRecDepth 100000 in
theorem FT (t:Track) (s:Zg) (band:Int) (w:World):Calls Tryz.prog 107 #[Track.v t,Zg.v s,.int .i64 band] w (Ret w (.tuple #[.bool ((YW t s band).1),.int .i64 ((YW t s band).2)])):=by
 refine Zk (vs:=[Track.v t,Zg.v s,.i band]) (w:=w) Tryz.func107 rfl Tryz.ntmps107 rfl (TC.sr (TL.nw 3 (fun b1=>.p0 b1) (fun b1=>Bk b1 (Track.c t) 40) (fun b1=>{}) (fun b1=>TL.nw 4 (fun b2=>.p0 b2) (fun b2=>Bk b2 (Zg.c s) 42) (fun b2=>{}) (fun b2=>TL.r 4 [] [(6,.b false),(7,.i 0)] {} (TL.ns (TC.sr (TL.r 1 [1] [(10,Track.v t)] {} (TL.c 11 (YE t) (fun r1=>.i r1) (fun w _=>Vd t w) {} (fun r1 hr1=>TL.r 3 [] [(8,.i r1)] {} (TL.nr (TL.r 2 [] [(13,.b (r1 != 0))] {} (TL.next rfl (TC.cond (r1 != 0) rfl Kr (fun h1=>?_) (fun h1=>?_))))))))))))))
 ·exact TC.sr (TL.r 3 [] [(6,.b false),(7,.i r1)] {} (TL.next rfl (TC.ret (TE.rt (TE.ret [] (.tuple #[.b false,.i r1]) {} (by unfold YW;refine eS (a:=(false,r1)) (fun (z:Bool×Int)=>(.tuple #[.b z.1,.i z.2]:Value)) ?_;subst hr1;exact Zj h1 (rfl)))))))
 ·refine TC.sn (TC.seq (TC.sr (TL.r 1 [0] [(15,Zg.v s)] {} (TL.c 16 (Zz s) (fun r2=>.i r2) (fun w _=>Xq s w) {} (fun r2 hr2=>TL.r 3 [] [(9,.i r2)] {} (TL.nr (TL.r 2 [] [(18,.b (r2 != 0))] {} (TL.next rfl (TC.cond (r2 != 0) rfl Kr (fun h2=>?_) (fun h2=>?_))))))))))
  ·exact TC.sr (TL.r 3 [] [(6,.b false),(7,.i r2)] {} (TL.next rfl (TC.ret (TE.rt (TE.ret [] (.tuple #[.b false,.i r2]) {} (by unfold YW;refine eS (a:=(false,r2)) (fun (z:Bool×Int)=>(.tuple #[.b z.1,.i z.2]:Value)) ?_;subst hr1 hr2;exact Zb h1 (Zj h2 (rfl))))))))
  ·refine TC.sn (TC.seq (TC.block (TC.sr (TL.r 3 [] [(23,.b (decide (band<0)))] {} (TL.j 23 (decide (band<0)) 6 [] [] (fun β=>[(26,.b (β||(decide (band>60000))))]) Kr {} {} (TL.r 7 [] [(20,.b ((decide (band<0))||(decide (band>60000))))] {} (TL.next rfl (TC.cond ((decide (band<0))||(decide (band>60000))) rfl Kr (fun h3=>?_) (fun h3=>?_)))))))))
   ·refine TC.sr (TL.r 2 [] [(6,.b false),(7,.i 4)] {} (TL.next rfl (TC.ret (TE.rb (TE.rt ?_)))))
    exact TE.ret [] (.tuple #[.b false,.i 4]) {} (by unfold YW;refine eS (a:=(false,4)) (fun (z:Bool×Int)=>(.tuple #[.b z.1,.i z.2]:Value)) ?_;subst hr1 hr2;exact Zb h1 (Zb h2 (Zj h3 (rfl))))
   ·refine TC.sr (TL.r 6 [1,0] [(27,.b (t.Time != s.Time))] {} (TL.next rfl (TC.cond (t.Time != s.Time) rfl Kr (fun h4=>?_) (fun h4=>?_))))
    ·refine TC.sr (TL.r 2 [] [(6,.b false),(7,.i 12)] {} (TL.next rfl (TC.ret (TE.rb (TE.rt ?_)))))
     exact TE.ret [] (.tuple #[.b false,.i 12]) {} (by unfold YW;refine eS (a:=(false,12)) (fun (z:Bool×Int)=>(.tuple #[.b z.1,.i z.2]:Value)) ?_;subst hr1 hr2;exact Zb h1 (Zb h2 (Zb h3 (Zj h4 (rfl)))))
    ·refine TC.skip (TE.nb (TE.nr (TL.r 9 [1,0,1,0] [(34,P.v t.At),(36,P.v s.At),(41,.i (w64 (t.Radius+s.Error)))] {} (TL.c 42 (ZV t.At s.At (w64 (t.Radius+s.Error))) (fun r3=>.b r3) (fun w _=>Jp t.At s.At (w64 (t.Radius+s.Error)) w) {} (fun r3 hr3=>TL.r 11 [] [(43,.b r3)] {} (TL.j 43 r3 25 [1,0,0,1] [] (fun β=>[(57,.b (β&&(decide ((Q4 (w64 (t.Height-s.Height)) (w64 (s.Height-t.Height)))≤band))))]) Kr {} {} (TL.r 26 [] [(58,.b (r3&&(decide ((Q4 (w64 (t.Height-s.Height)) (w64 (s.Height-t.Height)))≤band))))] {} (TL.split 58 (r3&&(decide ((Q4 (w64 (t.Height-s.Height)) (w64 (s.Height-t.Height)))≤band))) Kr (fun h5=>?_) (fun h5=>?_)))))))))
     ·refine TL.r 32 [1,0] [(64,.b (t.Code==s.Code))] {} (TL.split 64 (t.Code==s.Code) Kr (fun h6=>?_) (fun h6=>?_))
      ·exact TL.r 44 [] [(6,.b true),(7,.i 0)] {} (TL.next rfl (TC.ret (TE.ret [] (.tuple #[.b true,.i 0]) {} (by unfold YW;refine eS (a:=(true,0)) (fun (z:Bool×Int)=>(.tuple #[.b z.1,.i z.2]:Value)) ?_;subst hr1 hr2 hr3;exact Zb h1 (Zb h2 (Zb h3 (Zb h4 (Zj h5 (Zj h6 (rfl))))))))))
      ·refine TL.r 37 [1] [(69,.b (t.Code==(-1)))] {} (TL.split 69 (t.Code==(-1)) Kr (fun h7=>?_) (fun h7=>?_))
       ·exact TL.r 44 [] [(6,.b true),(7,.i 0)] {} (TL.next rfl (TC.ret (TE.ret [] (.tuple #[.b true,.i 0]) {} (by unfold YW;refine eS (a:=(true,0)) (fun (z:Bool×Int)=>(.tuple #[.b z.1,.i z.2]:Value)) ?_;subst hr1 hr2 hr3;exact Zb h1 (Zb h2 (Zb h3 (Zb h4 (Zj h5 (Zb h6 (Zj h7 (rfl)))))))))))
       ·exact TL.r 44 [0] [(6,.b (s.Code==(-1))),(7,.i 0)] {} (TL.next rfl (TC.ret (TE.ret [] (.tuple #[.b (s.Code==(-1)),.i 0]) {} (by unfold YW;refine eS (a:=(s.Code==(-1),0)) (fun (z:Bool×Int)=>(.tuple #[.b z.1,.i z.2]:Value)) ?_;subst hr1 hr2 hr3;exact Zb h1 (Zb h2 (Zb h3 (Zb h4 (Zj h5 (Zb h6 (Zb h7 (rfl)))))))))))
     ·exact TL.r 44 [] [(6,.b false),(7,.i 0)] {} (TL.next rfl (TC.ret (TE.ret [] (.tuple #[.b false,.i 0]) {} (by unfold YW;refine eS (a:=(false,0)) (fun (z:Bool×Int)=>(.tuple #[.b z.1,.i z.2]:Value)) ?_;subst hr1 hr2 hr3;exact Zb h1 (Zb h2 (Zb h3 (Zb h4 (Zb h5 (rfl)))))))))
def Qs (band:Int) (x:Track):List Zg→Nat→(List Int)→((List Int) ⊕ ((List (List Int))×Int))
 | [],_,row=>.inl row
 | x_2::xs,k_2,row=>let r1:=YW x x_2 band
  cond (r1.2 != 0) (
   .inr ([],r1.2)) (
   cond r1.1 (
    let r2:=ZN x.At x_2.At
    Qs band x xs (k_2+1) ((row.set k_2 (-1)).set k_2 (Yl (w64 (r2.tdiv 10000)) 1073741824))) (
    Qs band x xs (k_2+1) (row.set k_2 (-1))))
def QL (spots:List Zg) (band:Int):List Track→Nat→(List (List Int))→((List (List Int)) ⊕ ((List (List Int))×Int))
 | [],_,out=>.inl out
 | x::xs,k,out=>Sum.elim (fun row_2 =>
   QL spots band xs (k+1) (out ++ [row_2])) (fun r=>.inr r) (Qs band x spots 0 (List.replicate ((spots.length:Int).toNat) (0:Int)))
def Xb (tracks:List Track) (spots:List Zg) (band:Int):List (List Int)×Int :=
 cond ((decide ((tracks.length:Int)>32))||(decide ((spots.length:Int)>32))) (
  ([],2)) (
  Sum.elim (fun out_2 =>
   (out_2,0)) (fun r=>r) (QL spots band tracks 0 ([]:List (List Int))))
set_option maxHeartbeats 4000000 in
set_option maxRecDepth 100000 in
theorem Dq (A_tracks:Option Addr) (c_tracks:Nat) (tracks:List Track) (A_spots:Option Addr) (c_spots:Nat) (spots:List Zg) (band:Int) (w:World) (h_tracks:Rd w 13 A_tracks (tracks.map Track.c)) (_hc_tracks:tracks.length≤c_tracks) (h_spots:Rd w 6 A_spots (spots.map Zg.c)) (_hc_spots:spots.length≤c_spots):Calls Tryz.prog 51 #[.slice A_tracks tracks.length c_tracks,.slice A_spots spots.length c_spots,.int .i64 band] w (QW (Γ:=((Option Addr×Nat)×List (Sl Int))) (cx w) (fun g=>.tuple #[.slice g.1.1 ((Xb tracks spots band).1.length) g.1.2,.int .i64 ((Xb tracks spots band).2)]) (fun g=>[.inr (XF ((Xb tracks spots band).1=g.2.map Sl.l)),.inr (Own g.1.1 g.1.2 22 1 (g.2.map Sl.c)),.inr (Bag 3 1 ic g.2)])):=by
 have s_tracks:=h_tracks.short;rw[List.length_map] at s_tracks
 have s_spots:=h_spots.short;rw[List.length_map] at s_spots
 refine Zk (vs:=[.slice A_tracks tracks.length c_tracks,.slice A_spots spots.length c_spots,.i band]) (w:=w) Tryz.func51 rfl Tryz.ntmps51 rfl (TC.sr (TL.r 2 [] [(6,.slice none 0 0),(7,.i 0)] {} (TL.ns (TC.sr (TL.r 4 [] [(19,.b (decide ((tracks.length:Int)>32)))] {} (TL.j 19 (decide ((tracks.length:Int)>32)) 8 [] [] (fun β=>[(23,.b (β||(decide ((spots.length:Int)>32))))]) Kr {} {} (TL.next rfl (TC.cond ((decide ((tracks.length:Int)>32))||(decide ((spots.length:Int)>32))) rfl Kr (fun h1=>?_) (fun h1=>?_)))))))))
 ·refine TC.sr (TL.r 2 [] [(6,.slice none 0 0),(7,.i 2)] {} (TL.next rfl (TC.ret (TE.rt ?_))))
  have e:Xb tracks spots band=([],2):=by unfold Xb;exact Zj h1 (rfl)
  refine TE.conv [Ow none 0 22 1 (([]:List (Sl Int)).map Sl.c),.inr (Bag 3 1 ic ([]:List (Sl Int)))] (fun _ hM=>(hM.bag_nil 3 1 ic).emptyrow none 22 1) ?_
  rw[e]
  exact TE.retM (.inl rfl) ((none,0),([]:List (Sl Int))) [] (.tuple #[.slice none 0 0,.i 2]) {} rfl (fun _ hM=>(hM.sub (sb 3)).fact rfl)
 ·have q1_0:=(Zq (Zt h1))
  have q1_1:=(Zq (ZR h1))
  refine TC.snr (TL.r 1 [] [(8,.slice none 0 0)] {} (TL.ns (TC.sr (TL.r 3 [] [(24,.slice A_tracks tracks.length c_tracks),(25,.i (tracks.length:Int)),(26,.i 0)] {} (TL.next rfl (TC.conv [Ow none 0 22 1 (([]:List (Sl Int)).map Sl.c),.inr (Bag 3 1 ic ([]:List (Sl Int)))] (fun _ hM=>(hM.bag_nil 3 1 ic).emptyrow none 22 1) ?_))))))
  obtain⟨R3,hR⟩:∃ R,R=QL spots band tracks 0 ([]:List (List Int)):=⟨_,rfl⟩
  refine TC.cut (S:=(List (List Int))×(Option Addr)×Nat×(List (Sl Int))) (fun (out_2,A_out_2,c_out_2,o_out_2)=>[(8,.slice A_out_2 out_2.length c_out_2)]) (fun (out_2,A_out_2,c_out_2,o_out_2)=>[Ow A_out_2 c_out_2 22 1 (o_out_2.map Sl.c),.inr (Bag 3 1 ic o_out_2)]) (fun (out_2,A_out_2,c_out_2,o_out_2)=>R3=.inl out_2∧out_2.length≤tracks.length∧(out_2=o_out_2.map Sl.l)) ?_ ?_
  ·refine TC.block (TC.lw (X:=Nat×(List (List Int))×(Option Addr)×Nat×(List (Sl Int))) (fun (k,out,A_out,c_out,o_out)=>[(1,.slice A_spots spots.length c_spots),(2,.i band),(8,.slice A_out out.length c_out),(24,.slice A_tracks tracks.length c_tracks),(25,.i (tracks.length:Int)),(26,.i (k:Int))]) (fun (k,out,A_out,c_out,o_out)=>[Ow A_out c_out 22 1 (o_out.map Sl.c),.inr (Bag 3 1 ic o_out)]) (fun (k,out,A_out,c_out,o_out)=>tracks.length-k) (fun (k,out,A_out,c_out,o_out)=>k≤tracks.length∧R3=QL spots band (tracks.drop k) k out∧out.length≤k∧(out=o_out.map Sl.l)) ?_ (0,([]:List (List Int)),none,0,([]:List (Sl Int))) ⟨Nat.zero_le _,hR,sz,rfl⟩ Kr (sb 3))
   rintro⟨k,out,A_out,c_out,o_out⟩ ⟨hk,hI,hl_out,hl_he_out⟩
   refine TC.sr (TL.r 1 [] [(27,.b (decide ((k:Int)<(tracks.length:Int))))] {} (TL.ns (TC.cond (decide ((k:Int)<(tracks.length:Int))) rfl Kr (fun h2=>?_) (fun h2=>?_))))
   ·have hlt:=ltN h2
    obtain⟨x,hx⟩:=elN hlt
    have hd:=drop_at hx
    refine TC.sn (TC.seq (TC.block (TC.sr (TL.v (sV (Instr.indexAt 57 (.slice A_tracks tracks.length c_tracks) (.i (k:Int)))) 28 (.pointer (some (Ix A_tracks (k*13)))) (fun w hM=>Zp (h_tracks.sat hM) (by simp) Kr sd sd) {} (TL.v (sV (Instr.loadAt 40 (.pointer (some (Ix A_tracks (k*13)))))) 29 (Track.v x) (fun w hM=>Z6 (n:=13) (off:=0) (i:=k) (Track.v x) (h_tracks.sat hM) (Z8 hx) Kr Kr Kr) {} (TL.nw 10 (fun b1=>.p0 b1) (fun b1=>Bk b1 (Track.c Track.zero) 40) (fun b1=>{}) (fun b1=>TL.s 0 (Bk b1 (Track.c x) 40) (fun _=>{}) (TL.nr (TL.r 2 [] [(31,.i (spots.length:Int))] {} (TL.on (Γ:=AN) (sV (Instr.makeSlice 22 (.i (spots.length:Int)) (.i (spots.length:Int)))) 32 (fun g=>.slice g.1 (List.replicate ((spots.length:Int).toNat) (0:Int)).length g.2) (fun g=>Ow g.1 g.2 3 1 ((List.replicate ((spots.length:Int).toNat) (0:Int)).map ic)) (Kq (P:=Tryz.prog) (c:=ic) (t:=22) (e:=3) (sz:=1) (bytes:=8) 0 .i64 .i64 ((spots.length:Int).toNat) Kr Kr sd sd) {} ?_))))))))))
    rintro⟨A,c⟩
    refine TL.r 4 [] [(11,.slice A ((List.replicate ((spots.length:Int).toNat) (0:Int)).length) c)] {} (TL.ns (TC.sr (TL.r 3 [] [(33,.slice A_spots spots.length c_spots),(34,.i (spots.length:Int)),(35,.i 0)] {} (TL.next rfl ?_))))
    obtain⟨R5,hR_2⟩:∃ R,R=Qs band x spots 0 (List.replicate ((spots.length:Int).toNat) (0:Int)):=⟨_,rfl⟩
    refine TC.cut (S:=(List Int)) (fun row_2=>[(1,.slice A_spots spots.length c_spots),(2,.i band),(8,.slice A_out out.length c_out),(11,.slice A row_2.length c),(24,.slice A_tracks tracks.length c_tracks),(25,.i (tracks.length:Int)),(26,.i (k:Int))]) (fun row_2=>[Ow A c 3 1 (row_2.map ic),Ow A_out c_out 22 1 (o_out.map Sl.c),.inr (Bag 3 1 ic o_out)]) (fun row_2=>R5=.inl row_2∧row_2.length=((spots.length:Int).toNat)) ?_ ?_
    ·refine TC.block (TC.lw (X:=Nat×(List Int)) (fun (k_2,row)=>[(1,.slice A_spots spots.length c_spots),(2,.i band),(8,.slice A_out out.length c_out),(10,.p0 b1),(11,.slice A row.length c),(24,.slice A_tracks tracks.length c_tracks),(25,.i (tracks.length:Int)),(26,.i (k:Int)),(33,.slice A_spots spots.length c_spots),(34,.i (spots.length:Int)),(35,.i (k_2:Int))]) (fun (k_2,row)=>[Ow A c 3 1 (row.map ic),Bk b1 (Track.c x) 40,Ow A_out c_out 22 1 (o_out.map Sl.c),.inr (Bag 3 1 ic o_out)]) (fun (k_2,row)=>spots.length-k_2) (fun (k_2,row)=>k_2≤spots.length∧R5=Qs band x (spots.drop k_2) k_2 row∧row.length=((spots.length:Int).toNat)) ?_ (0,(List.replicate ((spots.length:Int).toNat) (0:Int))) ⟨Nat.zero_le _,hR_2,sz⟩ Kr (sb 15))
     rintro⟨k_2,row⟩ ⟨hk_2,hI_2,hl_row⟩
     refine TC.sr (TL.r 1 [] [(36,.b (decide ((k_2:Int)<(spots.length:Int))))] {} (TL.ns (TC.cond (decide ((k_2:Int)<(spots.length:Int))) rfl Kr (fun h3=>?_) (fun h3=>?_))))
     ·have hlt_2:=ltN h3
      obtain⟨x_2,hx_2⟩:=elN hlt_2
      have hd_2:=drop_at hx_2
      refine TC.sn (TC.seq (TC.block (TC.sr (TL.r 1 [] [(37,.i (k_2:Int))] {} (TL.v (sV (Instr.indexAt 52 (.slice A_spots spots.length c_spots) (.i (k_2:Int)))) 38 (.pointer (some (Ix A_spots (k_2*6)))) (fun w hM=>Zp (h_spots.sat hM) (by simp) Kr sd sd) {} (TL.v (sV (Instr.loadAt 42 (.pointer (some (Ix A_spots (k_2*6)))))) 39 (Zg.v x_2) (fun w hM=>Z6 (n:=6) (off:=0) (i:=k_2) (Zg.v x_2) (h_spots.sat hM) (Z8 hx_2) Kr Kr Kr) {} (TL.nw 13 (fun b2=>.p0 b2) (fun b2=>Bk b2 (Zg.c Zg.zero) 42) (fun b2=>{}) (fun b2=>TL.r 5 [] [(12,.i (k_2:Int))] {} (TL.s 0 (Bk b2 (Zg.c x_2) 42) (fun _=>{}) (TL.nr (TL.r 3 [2,0] [(41,Track.v x),(42,Zg.v x_2),(43,.i band)] {} (TL.c 44 (YW x x_2 band) (fun r1=>.tuple #[.b r1.1,.i r1.2]) (fun w _=>FT x x_2 band w) {} (fun r1 hr1=>TL.r 9 [] [(14,.b r1.1),(15,.i r1.2)] {} (TL.ns (TC.sr (TL.r 2 [] [(48,.b (r1.2 != 0))] {} (TL.next rfl (TC.cond (r1.2 != 0) rfl Kr (fun h4=>?_) (fun h4=>?_)))))))))))))))))))
      ·refine TC.sr (TL.r 3 [] [(6,.slice none 0 0),(7,.i r1.2)] {} (TL.next rfl (TC.ret (TE.rt (TE.rb (TE.rt (TE.rt (TE.rb (TE.rt (TE.rt (TE.rb (TE.rt (TE.rt (TE.rb (TE.rt (TE.rt ?_))))))))))))))))
       have e:Xb tracks spots band=([],r1.2):=by subst hr1;unfold Xb;exact Zb h1 (X3 (hR.symm.trans (hI.trans (by rw[hd];exact X3 (hR_2.symm.trans (hI_2.trans (by rw[hd_2];exact Zj h4 (rfl)))) rfl))) rfl)
       refine TE.conv [Ow none 0 22 1 (([]:List (Sl Int)).map Sl.c),.inr (Bag 3 1 ic ([]:List (Sl Int))),Bk b2 (Zg.c x_2) 42,Ow A c 3 1 (row.map ic),Bk b1 (Track.c x) 40,Ow A_out c_out 22 1 (o_out.map Sl.c),.inr (Bag 3 1 ic o_out)] (fun _ hM=>(hM.bag_nil 3 1 ic).emptyrow none 22 1) ?_
       rw[e]
       exact TE.retM (.inl rfl) ((none,0),([]:List (Sl Int))) [] (.tuple #[.slice none 0 0,.i r1.2]) {} rfl (fun _ hM=>(hM.sub (sb 3)).fact rfl)
      ·have q4_0:=(QQ h4)
       refine TC.snr (TL.r 2 [] [(50,.slice A row.length c),(51,.i (k_2:Int))] {} (TL.v (sV (Instr.indexAt 22 (.slice A row.length c) (.i (k_2:Int)))) 52 (.pointer (some (Ix A (k_2*1)))) (fun w hM=>Zp (hM.rd_at 1 rfl) (by simp) Kr sd sd) {} (TL.ks (Γ:=Unit) (sU (Instr.storeAt 3 (.pointer (some ((Ix A (k_2*1)).add 0))) (.i (-1)))) 1 (Ow A c 3 1 ((row.set k_2 (-1)).map ic)) (Yw (n:=1) (off:=0) (.i (-1)) 1 ((row.set k_2 (-1)).map ic) rfl (Z8 (getD_at _ _ 0 sd)) Kr Kr Kr Kr (Xa Kr)) Kr (TL.rw 11 (.slice A row.length c) (.slice A ((row.set k_2 (-1)).length) c) Kr (by simp only[List.length_set]) (TL.nr (TL.r 1 [] [(53,.b r1.1)] {} (TL.next rfl (TC.cond r1.1 rfl Kr (fun h5=>?_) (fun h5=>?_)))))))))
       ·exact TC.region (TL.r 6 [2,0] [(54,.slice A ((row.set k_2 (-1)).length) c),(55,.i (k_2:Int)),(57,P.v x.At),(59,P.v x_2.At)] {} (TL.c 60 (ZN x.At x_2.At) (fun r2=>.i r2) (fun w _=>JK x.At x_2.At w) {} (fun r2 hr2=>TL.r 9 [] [(62,.i (Yl (w64 (r2.tdiv 10000)) 1073741824))] {} (TL.v (sV (Instr.indexAt 22 (.slice A ((row.set k_2 (-1)).length) c) (.i (k_2:Int)))) 63 (.pointer (some (Ix A (k_2*1)))) (fun w hM=>Zp (hM.rd_at 1 rfl) (by simp) Kr sd sd) {} (TL.ks (Γ:=Unit) (sU (Instr.storeAt 3 (.pointer (some ((Ix A (k_2*1)).add 0))) (.i (Yl (w64 (r2.tdiv 10000)) 1073741824)))) 1 (Ow A c 3 1 (((row.set k_2 (-1)).set k_2 (Yl (w64 (r2.tdiv 10000)) 1073741824)).map ic)) (Yw (n:=1) (off:=0) (.i (Yl (w64 (r2.tdiv 10000)) 1073741824)) 1 (((row.set k_2 (-1)).set k_2 (Yl (w64 (r2.tdiv 10000)) 1073741824)).map ic) rfl (Z8 (getD_at _ _ 0 sd)) Kr Kr Kr Kr (Xa Kr)) Kr (TL.rw 11 (.slice A ((row.set k_2 (-1)).length) c) (.slice A (((row.set k_2 (-1)).set k_2 (Yl (w64 (r2.tdiv 10000)) 1073741824)).length) c) Kr (by simp only[List.length_set]) (TL.done rfl (TE.nb (TE.next (TC.region (TL.r 2 [] [(35,.i (w64 ((k_2:Int)+1)))] {} (TL.done rfl (TE.rw 35 (.i (w64 ((k_2:Int)+1))) (.i ((k_2+1:Nat):Int)) Kr (ZF k_2 (by omega)) (TE.again (x:=(k_2,row)) (k_2+1,((row.set k_2 (-1)).set k_2 (Yl (w64 (r2.tdiv 10000)) 1073741824))) ⟨by omega,hI_2.trans (by subst hr1 hr2;rw[hd_2];exact Zb h4 (Zj h5 (rfl))),sl⟩ (mN hlt_2) Kr (sb 30)))))))))))))))
       ·exact TC.skip (TE.nb (TE.next (TC.region (TL.r 2 [] [(35,.i (w64 ((k_2:Int)+1)))] {} (TL.done rfl (TE.rw 35 (.i (w64 ((k_2:Int)+1))) (.i ((k_2+1:Nat):Int)) Kr (ZF k_2 (by omega)) (TE.again (x:=(k_2,row)) (k_2+1,(row.set k_2 (-1))) ⟨by omega,hI_2.trans (by subst hr1;rw[hd_2];exact Zb h4 (Zb h5 (rfl))),sl⟩ (mN hlt_2) Kr (sb 30))))))))
     ·have hd_2:=Qc h3
      refine TC.exit (TE.et (TE.et (TE.exit_same ?_)))
      exact TE.cut row (⟨hI_2.trans (by rw[hd_2];exact rfl),sl⟩) Kr (sb 13)
    ·rintro row_2 ⟨hJ_2,hl_row_2⟩
     refine TE.next (TC.region (TL.r 2 [] [(65,.slice A_out out.length c_out),(66,.slice A row_2.length c)] {} (TL.nw 67 (fun b3=>.slice (Pa b3) 1 1) (fun b3=>Bk b3 #[.slice A row_2.length c] 22) (fun b3=>{}) (fun b3=>TL.rw 65 (.slice A_out out.length c_out) (.slice A_out o_out.length c_out) Kr (by rw[Ks hl_he_out]) (TL.opM (Γ:=AN) (sV (Builtin.append_ #[132,132] 132 #[.slice A_out o_out.length c_out,.slice (Pa b3) 1 1])) (some 68) (fun g=>.slice g.1 (o_out ++ [(⟨A,c,row_2⟩:Sl Int)]).length g.2) (fun g=>[Bk b3 #[.slice A row_2.length c] 22,Ow A c 3 1 (row_2.map ic),Ow g.1 g.2 22 1 ((o_out ++ [(⟨A,c,row_2⟩:Sl Int)]).map Sl.c),.inr (Bag 3 1 ic o_out)]) (fun g=>[(1,.slice A_spots spots.length c_spots),(2,.i band),(24,.slice A_tracks tracks.length c_tracks),(25,.i (tracks.length:Int)),(26,.i (k:Int)),(68,.slice g.1 ((o_out ++ [(⟨A,c,row_2⟩:Sl Int)]).length) g.2)]) (Qx (bytes:=24) 132 2 [(⟨A,c,row_2⟩:Sl Int)] Kr rfl rfl Sl.one rfl (fun w hM=>(Rd.lit hM 0 _ rfl Kr Kr Kr)) rfl (by have hz_:=Ks hl_he_out;rw[← hz_];exact sa)) Kr (fun g=>Kr) ?_)))))
     rintro⟨A_2,c_2⟩
     exact TL.rw 68 (.slice A_2 ((o_out ++ [(⟨A,c,row_2⟩:Sl Int)]).length) c_2) (.slice A_2 ((out ++ [row_2]).length) c_2) Kr (by rw[← Ks (BZ (s:=(⟨A,c,row_2⟩:Sl Int)) hl_he_out)]) (TL.conv [.inr (Bag 3 1 ic (o_out ++ [(⟨A,c,row_2⟩:Sl Int)])),Bk b3 #[.slice A row_2.length c] 22,Ow A_2 c_2 22 1 ((o_out ++ [(⟨A,c,row_2⟩:Sl Int)]).map Sl.c)] (fun _ hM=>Sat.bag_add (hM.perm (((List.Perm.cons _ (List.Perm.refl _)).trans (List.Perm.swap _ _ _)).trans (List.Perm.cons _ (((List.Perm.cons _ ((List.Perm.cons _ (List.Perm.refl _)).trans (List.Perm.swap _ _ _))).trans (List.Perm.swap _ _ _)).trans (List.Perm.cons _ (List.Perm.refl _))))))) (TL.conv [Ow A_2 c_2 22 1 ((o_out ++ [(⟨A,c,row_2⟩:Sl Int)]).map Sl.c),.inr (Bag 3 1 ic (o_out ++ [(⟨A,c,row_2⟩:Sl Int)])),Bk b3 #[.slice A row_2.length c] 22] (fun _ hM=>hM.perm (px [2,0,1])) (TL.r 5 [] [(8,.slice A_2 ((out ++ [row_2]).length) c_2)] {} (TL.done rfl (TE.nb (TE.next (TC.region (TL.r 2 [] [(26,.i (w64 ((k:Int)+1)))] {} (TL.done rfl (TE.rw 26 (.i (w64 ((k:Int)+1))) (.i ((k+1:Nat):Int)) Kr (ZF k (by omega)) (TE.again (x:=(k,out,A_out,c_out,o_out)) (k+1,(out ++ [row_2]),A_2,c_2,(o_out ++ [(⟨A,c,row_2⟩:Sl Int)])) ⟨by omega,hI.trans (by rw[hd];exact Xk (hR_2.symm.trans hJ_2) (rfl)),sl,(BZ (s:=(⟨A,c,row_2⟩:Sl Int)) hl_he_out)⟩ (mN hlt) Kr (sb 3))))))))))))
   ·have hd:=Qc h2
    refine TC.exit (TE.et (TE.et (TE.exit_same ?_)))
    exact TE.cut (out,A_out,c_out,o_out) (⟨hI.trans (by rw[hd];exact rfl),sl,hl_he_out⟩) Kr (sb 3)
  ·rintro⟨out_2,A_out_2,c_out_2,o_out_2⟩ ⟨hJ,hl_out_2,hl_he_out_2⟩
   refine TE.nr (TL.r 3 [] [(6,.slice A_out_2 out_2.length c_out_2),(7,.i 0)] {} (TL.next rfl (TC.ret ?_)))
   have e:Xb tracks spots band=(out_2,0):=by unfold Xb;exact Zb h1 (Xk (hR.symm.trans hJ) (rfl))
   rw[e]
   exact TE.retM (.inl rfl) ((A_out_2,c_out_2),o_out_2) [] (.tuple #[.slice A_out_2 out_2.length c_out_2,.i 0]) {} rfl (fun _ hM=>(hM.sub (sb 3)).fact hl_he_out_2)
end Go.Sky
end
section
namespace Go.Sky
open Go Go.Eng Go.Proofs
def Xz:List Int→Nat→((Unit) ⊕ (Int))
 | [],_=>.inl ()
 | x_2::xs,k_2=>cond ((decide (x_2<(-1)))||(decide (x_2>1099511627776))) (
   .inr 4) (
   Xz xs (k_2+1))
def X0 (costs:List (List Int)):List (List Int)→Nat→((Unit) ⊕ (Int))
 | [],_=>.inl ()
 | x::xs,k=>cond (decide ((x.length:Int)>32)) (
   .inr 2) (
   cond ((x.length:Int) != ((costs[0]?.getD []).length:Int)) (
    .inr 3) (
    Sum.elim (fun _ =>
     X0 costs xs (k+1)) (fun r=>.inr r) (Xz x 0)))
def Yb (costs:List (List Int)) (miss:Int):Int :=
 cond (decide ((costs.length:Int)>32)) (
  2) (
  Sum.elim (fun _ =>
   cond ((decide (miss<0))||(decide (miss>1099511627776))) (
    4) (
    0)) (fun r=>r) (X0 costs costs 0))
set_option maxHeartbeats 4000000 in
set_option maxRecDepth 100000 in
theorem Hk (A_costs:Option Addr) (c_costs:Nat) (costs:List (List Int)) (o_costs:List (Sl Int)) (miss:Int) (w:World) (h_costs:Rd w 1 A_costs (o_costs.map Sl.c)) (_hc_costs:costs.length≤c_costs) (hd_costs:∀ s∈o_costs,s.rd w 1 ic) (he_costs:costs=o_costs.map Sl.l):Calls Tryz.prog 153 #[.slice A_costs costs.length c_costs,.int .i64 miss] w (Ret w (.int .i64 (Yb costs miss))):=by
 have s_costs:=h_costs.short;rw[← JJ he_costs] at s_costs
 refine Zk (vs:=[.slice A_costs costs.length c_costs,.i miss]) (w:=w) Tryz.func153 rfl Tryz.ntmps153 rfl (TC.sr (TL.r 1 [] [(4,.i 0)] {} (TL.ns (TC.sr (TL.r 3 [] [(11,.b (decide ((costs.length:Int)>32)))] {} (TL.next rfl (TC.cond (decide ((costs.length:Int)>32)) rfl Kr (fun h1=>?_) (fun h1=>?_))))))))
 ·exact TC.sr (TL.r 1 [] [(4,.i 2)] {} (TL.next rfl (TC.ret (TE.rt (TE.ret [] (.i 2) {} (by unfold Yb;refine eS (fun z=>(.i z:Value)) ?_;exact Zj h1 (rfl)))))))
 ·have q1_0:=(Zq h1)
  refine TC.sn (TC.seq (TC.sr (TL.r 3 [] [(12,.slice A_costs costs.length c_costs),(13,.i (costs.length:Int)),(14,.i 0)] {} (TL.next rfl ?_))))
  obtain⟨R1,hR⟩:∃ R,R=X0 costs costs 0:=⟨_,rfl⟩
  refine TC.cut (S:=Unit) (fun (_:Unit)=>[(1,.i miss)]) (fun (_:Unit)=>[]) (fun (_:Unit)=>R1=.inl ()) ?_ ?_
  ·refine TC.block (TC.lw (X:=Nat) (fun k=>[(0,.slice A_costs costs.length c_costs),(1,.i miss),(12,.slice A_costs costs.length c_costs),(13,.i (costs.length:Int)),(14,.i (k:Int))]) (fun k=>[]) (fun k=>costs.length-k) (fun k=>k≤costs.length∧R1=X0 costs (costs.drop k) k) ?_ 0 ⟨Nat.zero_le _,hR⟩ Kr (sb 0))
   rintro k ⟨hk,hI⟩
   refine TC.sr (TL.r 1 [] [(15,.b (decide ((k:Int)<(costs.length:Int))))] {} (TL.ns (TC.cond (decide ((k:Int)<(costs.length:Int))) rfl Kr (fun h2=>?_) (fun h2=>?_))))
   ·have hlt:=ltN h2
    obtain⟨x,hx⟩:=elN hlt
    have hd:=drop_at hx
    refine TC.sn (TC.seq (TC.block (TC.sr (TL.v (sV (Instr.indexAt 132 (.slice A_costs costs.length c_costs) (.i (k:Int)))) 16 (.pointer (some (Ix A_costs (k*1)))) (fun w hM=>Zp (h_costs.sat hM) (JJ he_costs) Kr sd sd) {} ?_))))
    have s_s1:=(J2 (QG hd_costs k) (KJ he_costs hx)).short;rw[List.length_map] at s_s1
    refine TL.v (sV (Instr.loadAt 22 (.pointer (some (Ix A_costs (k*1)))))) 17 (.slice ((o_costs[k]?.getD Sl.zero).A) x.length ((o_costs[k]?.getD Sl.zero).cap)) (fun w hM=>(by have h:=Zs (P:=Tryz.prog) (T:=22) (off:=0) (i:=k) (.slice (o_costs[k]?.getD Sl.zero).A (o_costs[k]?.getD Sl.zero).l.length (o_costs[k]?.getD Sl.zero).cap) (h_costs.sat hM) (Z8 (getD_at _ _ Sl.zero (Wn he_costs (List.getElem?_eq_some_iff.1 hx).1))) Kr Kr;rw[(KJ he_costs hx)] at h;exact h)) {} ?_
    refine TL.r 3 [] [(6,.slice ((o_costs[k]?.getD Sl.zero).A) x.length ((o_costs[k]?.getD Sl.zero).cap))] {} (TL.ns (TC.block (TC.sr (TL.r 4 [] [(18,.b (decide ((x.length:Int)>32)))] {} (TL.next rfl (TC.cond (decide ((x.length:Int)>32)) rfl Kr (fun h3=>?_) (fun h3=>?_)))))))
    ·refine TC.sr (TL.r 1 [] [(4,.i 2)] {} (TL.next rfl (TC.ret (TE.rb (TE.rt (TE.rb (TE.rt (TE.rt (TE.rb (TE.rt (TE.rt ?_)))))))))))
     exact TE.ret [] (.i 2) {} (by unfold Yb;refine eS (fun z=>(.i z:Value)) ?_;exact Zb h1 (X3 (hR.symm.trans (hI.trans (by rw[hd];exact Zj h3 (rfl)))) rfl))
    ·have q3_0:=(Zq h3)
     refine TC.sr (TL.r 3 [] [(24,.i (x.length:Int)),(25,.slice A_costs costs.length c_costs)] {} (TL.v (sV (Instr.indexAt 132 (.slice A_costs costs.length c_costs) (.i 0))) 26 (.pointer (some (Ix A_costs (0*1)))) (fun w hM=>Zp (h_costs.sat hM) (JJ he_costs) Kr sd sd) {} ?_))
     have s_s2:=(J2 (QG hd_costs 0) (J9 he_costs 0)).short;rw[List.length_map] at s_s2
     refine TL.v (sV (Instr.loadAt 22 (.pointer (some (Ix A_costs (0*1)))))) 27 (.slice ((o_costs[0]?.getD Sl.zero).A) ((costs[0]?.getD []).length) ((o_costs[0]?.getD Sl.zero).cap)) (fun w hM=>(by have h:=Zs (P:=Tryz.prog) (T:=22) (off:=0) (i:=0) (.slice (o_costs[0]?.getD Sl.zero).A (o_costs[0]?.getD Sl.zero).l.length (o_costs[0]?.getD Sl.zero).cap) (h_costs.sat hM) (Z8 (getD_at _ _ Sl.zero (Wn he_costs sd))) Kr Kr;rw[(J9 he_costs 0)] at h;exact h)) {} (TL.r 8 [] [(22,.b ((x.length:Int) != ((costs[0]?.getD []).length:Int)))] {} (TL.next rfl (TC.cond ((x.length:Int) != ((costs[0]?.getD []).length:Int)) rfl Kr (fun h4=>?_) (fun h4=>?_))))
     ·refine TC.sr (TL.r 1 [] [(4,.i 3)] {} (TL.next rfl (TC.ret (TE.rb (TE.rt (TE.rb (TE.rt (TE.rt (TE.rb (TE.rt (TE.rt ?_)))))))))))
      exact TE.ret [] (.i 3) {} (by unfold Yb;refine eS (fun z=>(.i z:Value)) ?_;exact Zb h1 (X3 (hR.symm.trans (hI.trans (by rw[hd];exact Zb h3 (Zj h4 (rfl))))) rfl))
     ·have q4_0:=(QQ h4)
      refine TC.skip (TE.nb (TE.nr (TL.r 3 [] [(30,.slice ((o_costs[k]?.getD Sl.zero).A) x.length ((o_costs[k]?.getD Sl.zero).cap)),(31,.i (x.length:Int)),(32,.i 0)] {} (TL.next rfl ?_))))
      obtain⟨R2,hR_2⟩:∃ R,R=Xz x 0:=⟨_,rfl⟩
      refine TC.cut (S:=Unit) (fun (_:Unit)=>[(0,.slice A_costs costs.length c_costs),(1,.i miss),(12,.slice A_costs costs.length c_costs),(13,.i (costs.length:Int)),(14,.i (k:Int))]) (fun (_:Unit)=>[]) (fun (_:Unit)=>R2=.inl ()) ?_ ?_
      ·refine TC.block (TC.lw (X:=Nat) (fun k_2=>[(0,.slice A_costs costs.length c_costs),(1,.i miss),(12,.slice A_costs costs.length c_costs),(13,.i (costs.length:Int)),(14,.i (k:Int)),(30,.slice ((o_costs[k]?.getD Sl.zero).A) x.length ((o_costs[k]?.getD Sl.zero).cap)),(31,.i (x.length:Int)),(32,.i (k_2:Int))]) (fun k_2=>[]) (fun k_2=>x.length-k_2) (fun k_2=>k_2≤x.length∧R2=Xz (x.drop k_2) k_2) ?_ 0 ⟨Nat.zero_le _,hR_2⟩ Kr (sb 0))
       rintro k_2 ⟨hk_2,hI_2⟩
       refine TC.sr (TL.r 1 [] [(33,.b (decide ((k_2:Int)<(x.length:Int))))] {} (TL.ns (TC.cond (decide ((k_2:Int)<(x.length:Int))) rfl Kr (fun h5=>?_) (fun h5=>?_))))
       ·have hlt_2:=ltN h5
        obtain⟨x_2,hx_2⟩:=elN hlt_2
        have hd_2:=drop_at hx_2
        refine TC.sn (TC.seq (TC.block (TC.sr (TL.v (sV (Instr.indexAt 22 (.slice ((o_costs[k]?.getD Sl.zero).A) x.length ((o_costs[k]?.getD Sl.zero).cap)) (.i (k_2:Int)))) 34 (.pointer (some ((((o_costs[k]?.getD Sl.zero).A).getD Yc).add (k_2*1)))) (fun w hM=>Zp (J2 ((QG hd_costs k).sat hM) (KJ he_costs hx)) (by simp) Kr sd sd) {} (TL.v (sV (Instr.loadAt 3 (.pointer (some ((((o_costs[k]?.getD Sl.zero).A).getD Yc).add (k_2*1)))))) 35 (.i x_2) (fun w hM=>Zs (off:=0) (i:=k_2) (.i x_2) (J2 ((QG hd_costs k).sat hM) (KJ he_costs hx)) (Z8 hx_2) Kr Kr) {} (TL.r 3 [] [(8,.i x_2)] {} (TL.nr (TL.r 3 [] [(38,.b (decide (x_2<(-1))))] {} (TL.j 38 (decide (x_2<(-1))) 6 [] [] (fun β=>[(41,.b (β||(decide (x_2>1099511627776))))]) Kr {} {} (TL.next rfl (TC.cond ((decide (x_2<(-1)))||(decide (x_2>1099511627776))) rfl Kr (fun h6=>?_) (fun h6=>?_))))))))))))
        ·refine TC.sr (TL.r 1 [] [(4,.i 4)] {} (TL.next rfl (TC.ret (TE.rb (TE.rt (TE.rt (TE.rb (TE.rt (TE.rb (TE.rt (TE.rt (TE.rb (TE.rt (TE.rt ?_))))))))))))))
         exact TE.ret [] (.i 4) {} (by unfold Yb;refine eS (fun z=>(.i z:Value)) ?_;exact Zb h1 (X3 (hR.symm.trans (hI.trans (by rw[hd];exact Zb h3 (Zb h4 (X3 (hR_2.symm.trans (hI_2.trans (by rw[hd_2];exact Zj h6 (rfl)))) rfl))))) rfl))
        ·have q6_0:=(Zq (Zt h6))
         have q6_1:=(Zq (ZR h6))
         exact TC.skip (TE.nb (TE.next (TC.region (TL.r 2 [] [(32,.i (w64 ((k_2:Int)+1)))] {} (TL.done rfl (TE.rw 32 (.i (w64 ((k_2:Int)+1))) (.i ((k_2+1:Nat):Int)) Kr (ZF k_2 (by omega)) (TE.again (x:=k_2) (k_2+1) ⟨by omega,hI_2.trans (by rw[hd_2];exact Zb h6 (rfl))⟩ (mN hlt_2) Kr (sb 0))))))))
       ·have hd_2:=Qc h5
        refine TC.exit (TE.et (TE.et (TE.exit_same ?_)))
        exact TE.cut () (hI_2.trans (by rw[hd_2];exact rfl)) Kr (sb 0)
      ·intro _ hJ_2
       exact TE.nb (TE.next (TC.region (TL.r 2 [] [(14,.i (w64 ((k:Int)+1)))] {} (TL.done rfl (TE.rw 14 (.i (w64 ((k:Int)+1))) (.i ((k+1:Nat):Int)) Kr (ZF k (by omega)) (TE.again (x:=k) (k+1) ⟨by omega,hI.trans (by rw[hd];exact Zb h3 (Zb h4 (Xk (hR_2.symm.trans hJ_2) (rfl))))⟩ (mN hlt) Kr (sb 0)))))))
   ·have hd:=Qc h2
    refine TC.exit (TE.et (TE.et (TE.exit_same ?_)))
    exact TE.cut () (hI.trans (by rw[hd];exact rfl)) Kr (sb 0)
  ·intro _ hJ
   refine TE.next (TC.seq (TC.sr (TL.r 3 [] [(46,.b (decide (miss<0)))] {} (TL.j 46 (decide (miss<0)) 6 [] [] (fun β=>[(49,.b (β||(decide (miss>1099511627776))))]) Kr {} {} (TL.next rfl (TC.cond ((decide (miss<0))||(decide (miss>1099511627776))) rfl Kr (fun h7=>?_) (fun h7=>?_)))))))
   ·exact TC.sr (TL.r 1 [] [(4,.i 4)] {} (TL.next rfl (TC.ret (TE.rt (TE.ret [] (.i 4) {} (by unfold Yb;refine eS (fun z=>(.i z:Value)) ?_;exact Zb h1 (Xk (hR.symm.trans hJ) (Zj h7 (rfl)))))))))
   ·exact TC.snr (TL.r 1 [] [(4,.i 0)] {} (TL.next rfl (TC.ret (TE.ret [] (.i 0) {} (by unfold Yb;refine eS (fun z=>(.i z:Value)) ?_;exact Zb h1 (Xk (hR.symm.trans hJ) (Zb h7 (rfl))))))))
def XT (costs:List (List Int)):Int :=
 cond ((costs.length:Int)==0) (
  0) (
  ((costs[0]?.getD []).length:Int))
set_option maxRecDepth 100000 in
theorem Ub (A_costs:Option Addr) (c_costs:Nat) (costs:List (List Int)) (o_costs:List (Sl Int)) (w:World) (h_costs:Rd w 1 A_costs (o_costs.map Sl.c)) (_hc_costs:costs.length≤c_costs) (hd_costs:∀ s∈o_costs,s.rd w 1 ic) (he_costs:costs=o_costs.map Sl.l):Calls Tryz.prog 109 #[.slice A_costs costs.length c_costs] w (Ret w (.int .i64 (XT costs))):=by
 have s_costs:=h_costs.short;rw[← JJ he_costs] at s_costs
 refine Zk (vs:=[.slice A_costs costs.length c_costs]) (w:=w) Tryz.func109 rfl Tryz.ntmps109 rfl (TC.sr (TL.r 1 [] [(2,.i 0)] {} (TL.ns (TC.sr (TL.r 3 [] [(5,.b ((costs.length:Int)==0))] {} (TL.next rfl (TC.cond ((costs.length:Int)==0) rfl Kr (fun h1=>?_) (fun h1=>?_))))))))
 ·exact TC.sr (TL.r 1 [] [(2,.i 0)] {} (TL.next rfl (TC.ret (TE.rt (TE.ret [] (.i 0) {} (by unfold XT;refine eS (fun z=>(.i z:Value)) ?_;exact Zj h1 (rfl)))))))
 ·have q1_0:=(ZQ h1)
  refine TC.snr (TL.r 1 [] [(6,.slice A_costs costs.length c_costs)] {} (TL.v (sV (Instr.indexAt 132 (.slice A_costs costs.length c_costs) (.i 0))) 7 (.pointer (some (Ix A_costs (0*1)))) (fun w hM=>Zp (h_costs.sat hM) (JJ he_costs) Kr sd sd) {} ?_))
  have s_s1:=(J2 (QG hd_costs 0) (J9 he_costs 0)).short;rw[List.length_map] at s_s1
  exact TL.v (sV (Instr.loadAt 22 (.pointer (some (Ix A_costs (0*1)))))) 8 (.slice ((o_costs[0]?.getD Sl.zero).A) ((costs[0]?.getD []).length) ((o_costs[0]?.getD Sl.zero).cap)) (fun w hM=>(by have h:=Zs (P:=Tryz.prog) (T:=22) (off:=0) (i:=0) (.slice (o_costs[0]?.getD Sl.zero).A (o_costs[0]?.getD Sl.zero).l.length (o_costs[0]?.getD Sl.zero).cap) (h_costs.sat hM) (Z8 (getD_at _ _ Sl.zero (Wn he_costs sd))) Kr Kr;rw[(J9 he_costs 0)] at h;exact h)) {} (TL.r 5 [] [(2,.i ((costs[0]?.getD []).length:Int))] {} (TL.next rfl (TC.ret (TE.ret [] (.i ((costs[0]?.getD []).length:Int)) {} (by unfold XT;refine eS (fun z=>(.i z:Value)) ?_;exact Zb h1 (rfl))))))
def Ys (i:Int) (k:Int) (x:Int) (x_2:Int) (x_3:List Bool) (x_4:List (List Int)):Int :=
 cond (decide (k≥x)) (
  cond ((w64 (k-x))==i) (
   x_2) (
   36028797018963968)) (
  cond ((x_3[k.toNat]?.getD false)) (
   36028797018963968) (
   cond (decide (((x_4[i.toNat]?.getD [])[k.toNat]?.getD 0)<0)) (
    36028797018963968) (
    ((x_4[i.toNat]?.getD [])[k.toNat]?.getD 0))))
theorem Ja {rows:List (List Int)} {c:Int} (h:∀ r∈rows,(r.length:Int)=c) {i:Nat} (hi:i<rows.length):((rows[i]?.getD []).length:Int)=c:=by
 rw[List.getElem?_eq_getElem hi];exact h _ (List.getElem_mem hi)
set_option maxRecDepth 100000 in
theorem Vx (i:Int) (k:Int) (a_x:Addr) (x:Int) (a_x_2:Addr) (x_2:Int) (a_x_3:Addr) (A_x_3:Option Addr) (c_x_3:Nat) (x_3:List Bool) (a_x_4:Addr) (A_x_4:Option Addr) (c_x_4:Nat) (x_4:List (List Int)) (o_x_4:List (Sl Int)) (w:World) (h_x:Rd w 1 (some a_x) [ic x]) (h_x_2:Rd w 1 (some a_x_2) [ic x_2]) (h_x_3:Rd w 1 (some a_x_3) [Sl.c (⟨A_x_3,c_x_3,x_3⟩:Sl Bool)]) (hd_x_3:(⟨A_x_3,c_x_3,x_3⟩:Sl Bool).rd w 1 bc) (h_x_4:Rd w 1 (some a_x_4) [#[.slice A_x_4 x_4.length c_x_4]]) (hr_x_4:Rd w 1 A_x_4 (o_x_4.map Sl.c)) (_hl_x_4:x_4.length≤c_x_4) (hp_x_4:∀ s∈o_x_4,s.rd w 1 ic) (he_x_4:x_4=o_x_4.map Sl.l) (hp:(0≤i∧i<(x_4.length:Int))∧(0≤k∧k<4611686018427387904)∧(0≤x∧x<4611686018427387904)∧(x_3.length:Int)=x∧∀ r∈x_4,(r.length:Int)=x):Calls Tryz.prog 154 #[.int .i64 i,.int .i64 k,.pointer (some a_x),.pointer (some a_x_2),.pointer (some a_x_3),.pointer (some a_x_4)] w (Ret w (.int .i64 (Ys i k x x_2 x_3 x_4))):=by
 refine Zk (vs:=[.i i,.i k,.pointer (some a_x),.pointer (some a_x_2),.pointer (some a_x_3),.pointer (some a_x_4)]) (w:=w) Tryz.func154 rfl Tryz.ntmps154 rfl (TC.sr (TL.r 1 [] [(8,.i 0)] {} (TL.ns (TC.block (TC.sr (TL.r 1 [] [(10,.i k)] {} (TL.v (sV (Instr.loadAt 3 (.pointer (some a_x)))) 11 (.i x) (fun w hM=>Zs (off:=0) (.i x) (h_x.sat hM) (Xv _) Kr Kr) {} (TL.r 4 [] [(9,.b (decide (k≥x)))] {} (TL.next rfl (TC.cond (decide (k≥x)) rfl Kr (fun h1=>?_) (fun h1=>?_)))))))))))
 ·refine TC.seq (TC.sr (TL.r 1 [] [(13,.i k)] {} (TL.v (sV (Instr.loadAt 3 (.pointer (some a_x)))) 14 (.i x) (fun w hM=>Zs (off:=0) (.i x) (h_x.sat hM) (Xv _) Kr Kr) {} (TL.r 5 [] [(17,.b ((w64 (k-x))==i))] {} (TL.next rfl (TC.cond ((w64 (k-x))==i) rfl Kr (fun h2=>?_) (fun h2=>?_)))))))
  ·refine TC.sr (TL.v (sV (Instr.loadAt 3 (.pointer (some a_x_2)))) 18 (.i x_2) (fun w hM=>Zs (off:=0) (.i x_2) (h_x_2.sat hM) (Xv _) Kr Kr) {} (TL.r 2 [] [(8,.i x_2)] {} (TL.next rfl (TC.ret (TE.rt (TE.rb (TE.rt ?_)))))))
   exact TE.ret [] (.i x_2) {} (by unfold Ys;refine eS (fun z=>(.i z:Value)) ?_;exact Zj h1 (Zj h2 (rfl)))
  ·refine TC.snr (TL.r 1 [] [(8,.i 36028797018963968)] {} (TL.next rfl (TC.ret (TE.rb (TE.rt ?_)))))
   exact TE.ret [] (.i 36028797018963968) {} (by unfold Ys;refine eS (fun z=>(.i z:Value)) ?_;exact Zj h1 (Zb h2 (rfl)))
 ·have q1_0:=(Zq h1)
  refine TC.sr (TL.v (sV (Instr.loadAt 137 (.pointer (some a_x_3)))) 20 (.slice A_x_3 x_3.length c_x_3) (fun w hM=>Zs (off:=0) (.slice A_x_3 x_3.length c_x_3) (h_x_3.sat hM) (Xv _) Kr Kr) {} (TL.r 2 [] [(21,.i k)] {} (TL.v (sV (Instr.indexAt 137 (.slice A_x_3 x_3.length c_x_3) (.i k))) 22 (.pointer (some (Ix A_x_3 (k.toNat*1)))) (fun w hM=>Zp (hd_x_3.rd.sat hM) (by simp) Kr (by (try have kr_:=Ja hp.2.2.2.2 (i:=i.toNat) (by omega));exact sd) (by (try have kr_:=Ja hp.2.2.2.2 (i:=i.toNat) (by omega));exact sd)) {} (TL.v (sV (Instr.loadAt 4 (.pointer (some (Ix A_x_3 (k.toNat*1)))))) 23 (.b ((x_3[k.toNat]?.getD false))) (fun w hM=>Zs (off:=0) (i:=k.toNat) (.b ((x_3[k.toNat]?.getD false))) (hd_x_3.rd.sat hM) (Z8 (getD_at _ _ false (by (try have kr_:=Ja hp.2.2.2.2 (i:=i.toNat) (by omega));exact sd))) Kr Kr) {} (TL.r 5 [] [(24,.b ((x_3[k.toNat]?.getD false)))] {} (TL.split 24 ((x_3[k.toNat]?.getD false)) Kr (fun h3=>?_) (fun h3=>?_)))))))
  ·refine TL.r 15 [] [(19,.b true)] {} (TL.next rfl (TC.condT rfl Kr (TC.sr (TL.r 1 [] [(8,.i 36028797018963968)] {} (TL.next rfl (TC.ret (TE.rb (TE.rt ?_))))))))
   exact TE.ret [] (.i 36028797018963968) {} (by unfold Ys;refine eS (fun z=>(.i z:Value)) ?_;exact Zb h1 (Zj h3 (rfl)))
  ·refine TL.v (sV (Instr.loadAt 132 (.pointer (some a_x_4)))) 25 (.slice A_x_4 x_4.length c_x_4) (fun w hM=>(by have h:=Zs (P:=Tryz.prog) (T:=132) (off:=0) (i:=0) (A:=some a_x_4) (.slice A_x_4 x_4.length c_x_4) (h_x_4.sat hM) (Xv _) Kr Kr;exact h)) {} (TL.r 7 [] [(26,.i i)] {} (TL.v (sV (Instr.indexAt 132 (.slice A_x_4 x_4.length c_x_4) (.i i))) 27 (.pointer (some (Ix A_x_4 (i.toNat*1)))) (fun w hM=>Zp (hr_x_4.sat hM) (JJ he_x_4) Kr (by (try have kr_:=Ja hp.2.2.2.2 (i:=i.toNat) (by omega));exact sd) (by (try have kr_:=Ja hp.2.2.2.2 (i:=i.toNat) (by omega));exact sd)) {} ?_))
   have s_s1:=(J2 (QG hp_x_4 i.toNat) (J9 he_x_4 i.toNat)).short;rw[List.length_map] at s_s1
   refine TL.v (sV (Instr.loadAt 22 (.pointer (some (Ix A_x_4 (i.toNat*1)))))) 28 (.slice ((o_x_4[i.toNat]?.getD Sl.zero).A) ((x_4[i.toNat]?.getD []).length) ((o_x_4[i.toNat]?.getD Sl.zero).cap)) (fun w hM=>(by have h:=Zs (P:=Tryz.prog) (T:=22) (off:=0) (i:=i.toNat) (.slice (o_x_4[i.toNat]?.getD Sl.zero).A (o_x_4[i.toNat]?.getD Sl.zero).l.length (o_x_4[i.toNat]?.getD Sl.zero).cap) (hr_x_4.sat hM) (Z8 (getD_at _ _ Sl.zero (Wn he_x_4 (by (try have kr_:=Ja hp.2.2.2.2 (i:=i.toNat) (by omega));exact sd)))) Kr Kr;rw[(J9 he_x_4 i.toNat)] at h;exact h)) {} (TL.r 10 [] [(29,.i k)] {} (TL.v (sV (Instr.indexAt 22 (.slice ((o_x_4[i.toNat]?.getD Sl.zero).A) ((x_4[i.toNat]?.getD []).length) ((o_x_4[i.toNat]?.getD Sl.zero).cap)) (.i k))) 30 (.pointer (some ((((o_x_4[i.toNat]?.getD Sl.zero).A).getD Yc).add (k.toNat*1)))) (fun w hM=>Zp (J2 ((QG hp_x_4 i.toNat).sat hM) (J9 he_x_4 i.toNat)) (by simp) Kr (by (try have kr_:=Ja hp.2.2.2.2 (i:=i.toNat) (by omega));exact sd) (by (try have kr_:=Ja hp.2.2.2.2 (i:=i.toNat) (by omega));exact sd)) {} (TL.v (sV (Instr.loadAt 3 (.pointer (some ((((o_x_4[i.toNat]?.getD Sl.zero).A).getD Yc).add (k.toNat*1)))))) 31 (.i ((x_4[i.toNat]?.getD [])[k.toNat]?.getD 0)) (fun w hM=>Zs (off:=0) (i:=k.toNat) (.i ((x_4[i.toNat]?.getD [])[k.toNat]?.getD 0)) (J2 ((QG hp_x_4 i.toNat).sat hM) (J9 he_x_4 i.toNat)) (Z8 (getD_at _ _ 0 (by (try have kr_:=Ja hp.2.2.2.2 (i:=i.toNat) (by omega));exact sd))) Kr Kr) {} (TL.r 15 [] [(19,.b (decide (((x_4[i.toNat]?.getD [])[k.toNat]?.getD 0)<0)))] {} (TL.next rfl (TC.cond (decide (((x_4[i.toNat]?.getD [])[k.toNat]?.getD 0)<0)) rfl Kr (fun h4=>?_) (fun h4=>?_)))))))
   ·refine TC.sr (TL.r 1 [] [(8,.i 36028797018963968)] {} (TL.next rfl (TC.ret (TE.rb (TE.rt ?_)))))
    exact TE.ret [] (.i 36028797018963968) {} (by unfold Ys;refine eS (fun z=>(.i z:Value)) ?_;exact Zb h1 (Zb h3 (Zj h4 (rfl))))
   ·have q4_0:=(Zq h4)
    refine TC.skip (TE.nb (TE.nr (TL.v (sV (Instr.loadAt 132 (.pointer (some a_x_4)))) 34 (.slice A_x_4 x_4.length c_x_4) (fun w hM=>(by have h:=Zs (P:=Tryz.prog) (T:=132) (off:=0) (i:=0) (A:=some a_x_4) (.slice A_x_4 x_4.length c_x_4) (h_x_4.sat hM) (Xv _) Kr Kr;exact h)) {} (TL.r 2 [] [(35,.i i)] {} (TL.v (sV (Instr.indexAt 132 (.slice A_x_4 x_4.length c_x_4) (.i i))) 36 (.pointer (some (Ix A_x_4 (i.toNat*1)))) (fun w hM=>Zp (hr_x_4.sat hM) (JJ he_x_4) Kr (by (try have kr_:=Ja hp.2.2.2.2 (i:=i.toNat) (by omega));exact sd) (by (try have kr_:=Ja hp.2.2.2.2 (i:=i.toNat) (by omega));exact sd)) {} ?_)))))
    have s_s2:=(J2 (QG hp_x_4 i.toNat) (J9 he_x_4 i.toNat)).short;rw[List.length_map] at s_s2
    exact TL.v (sV (Instr.loadAt 22 (.pointer (some (Ix A_x_4 (i.toNat*1)))))) 37 (.slice ((o_x_4[i.toNat]?.getD Sl.zero).A) ((x_4[i.toNat]?.getD []).length) ((o_x_4[i.toNat]?.getD Sl.zero).cap)) (fun w hM=>(by have h:=Zs (P:=Tryz.prog) (T:=22) (off:=0) (i:=i.toNat) (.slice (o_x_4[i.toNat]?.getD Sl.zero).A (o_x_4[i.toNat]?.getD Sl.zero).l.length (o_x_4[i.toNat]?.getD Sl.zero).cap) (hr_x_4.sat hM) (Z8 (getD_at _ _ Sl.zero (Wn he_x_4 (by (try have kr_:=Ja hp.2.2.2.2 (i:=i.toNat) (by omega));exact sd)))) Kr Kr;rw[(J9 he_x_4 i.toNat)] at h;exact h)) {} (TL.r 5 [] [(38,.i k)] {} (TL.v (sV (Instr.indexAt 22 (.slice ((o_x_4[i.toNat]?.getD Sl.zero).A) ((x_4[i.toNat]?.getD []).length) ((o_x_4[i.toNat]?.getD Sl.zero).cap)) (.i k))) 39 (.pointer (some ((((o_x_4[i.toNat]?.getD Sl.zero).A).getD Yc).add (k.toNat*1)))) (fun w hM=>Zp (J2 ((QG hp_x_4 i.toNat).sat hM) (J9 he_x_4 i.toNat)) (by simp) Kr (by (try have kr_:=Ja hp.2.2.2.2 (i:=i.toNat) (by omega));exact sd) (by (try have kr_:=Ja hp.2.2.2.2 (i:=i.toNat) (by omega));exact sd)) {} (TL.v (sV (Instr.loadAt 3 (.pointer (some ((((o_x_4[i.toNat]?.getD Sl.zero).A).getD Yc).add (k.toNat*1)))))) 40 (.i ((x_4[i.toNat]?.getD [])[k.toNat]?.getD 0)) (fun w hM=>Zs (off:=0) (i:=k.toNat) (.i ((x_4[i.toNat]?.getD [])[k.toNat]?.getD 0)) (J2 ((QG hp_x_4 i.toNat).sat hM) (J9 he_x_4 i.toNat)) (Z8 (getD_at _ _ 0 (by (try have kr_:=Ja hp.2.2.2.2 (i:=i.toNat) (by omega));exact sd))) Kr Kr) {} (TL.r 8 [] [(8,.i ((x_4[i.toNat]?.getD [])[k.toNat]?.getD 0))] {} (TL.next rfl (TC.ret (TE.ret [] (.i ((x_4[i.toNat]?.getD [])[k.toNat]?.getD 0)) {} (by unfold Ys;refine eS (fun z=>(.i z:Value)) ?_;exact Zb h1 (Zb h3 (Zb h4 (rfl)))))))))))
end Go.Sky
end
section
namespace Go.Sky
open Go Go.Eng Go.Proofs
def YF:Nat→Nat→(List Int)→(List Int)
 | 0,_,low=>low
 | m+1,k_2,low=>YF m (k_2+1) (low.set k_2 1152921504606846976)
def Y2 (costs:List (List Int)) (miss:Int) (from_:Int) (taken:List Bool) (k:Nat) (row:List Int) (at_:Int) (u_3:List Int) (v_3:List Int) (used:List Bool):Nat→Nat→Int→Int→(List Int)→(List Int)→(Int×Int×List Int×List Int)
  | 0,_,delta,next,way_5,low_5=>(delta,next,way_5,low_5)
  | m+1,k_3,delta,next,way_5,low_5=>cond (((used.set at_.toNat true)[(1+(k_3:Int)).toNat]?.getD false)) (
      Y2 costs miss from_ taken k row at_ u_3 v_3 used m (k_3+1) delta next way_5 low_5) (
      let r3:=Ys (w64 (((row.set 0 (1+(k:Int)))[at_.toNat]?.getD 0)-1)) (w64 ((1+(k_3:Int))-1)) (((costs.drop from_.toNat)[0]?.getD []).length:Int) miss taken (costs.drop from_.toNat)
      Y6 (cond (decide ((w64 ((w64 (r3-(u_3[((row.set 0 (1+(k:Int)))[at_.toNat]?.getD 0).toNat]?.getD 0)))-(v_3[(1+(k_3:Int)).toNat]?.getD 0)))<(low_5[(1+(k_3:Int)).toNat]?.getD 0))) (
                        ((way_5.set ((1+(k_3:Int)).toNat) at_),(low_5.set ((1+(k_3:Int)).toNat) (w64 ((w64 (r3-(u_3[((row.set 0 (1+(k:Int)))[at_.toNat]?.getD 0).toNat]?.getD 0)))-(v_3[(1+(k_3:Int)).toNat]?.getD 0)))))) (
                        (way_5,low_5))) (fun (way_7,low_7) =>
        cond (decide ((low_7[(1+(k_3:Int)).toNat]?.getD 0)<delta)) (
          Y2 costs miss from_ taken k row at_ u_3 v_3 used m (k_3+1) (low_7[(1+(k_3:Int)).toNat]?.getD 0) (1+(k_3:Int)) way_7 low_7) (
          Y2 costs miss from_ taken k row at_ u_3 v_3 used m (k_3+1) delta next way_7 low_7)))
def YT (k:Nat) (row:List Int) (delta_2:Int):List Bool→Nat→(List Int)→(List Int)→(List Int)→(List Int×List Int×List Int)
 | [],_,u_5,v_5,low_8=>(u_5,v_5,low_8)
 | x::xs,k_4,u_5,v_5,low_8=>cond x (
   YT k row delta_2 xs (k_4+1) (u_5.set (((row.set 0 (1+(k:Int)))[k_4]?.getD 0).toNat) (w64 ((u_5[((row.set 0 (1+(k:Int)))[k_4]?.getD 0).toNat]?.getD 0)+delta_2))) (v_5.set k_4 (w64 ((v_5[k_4]?.getD 0)-delta_2))) low_8) (
   YT k row delta_2 xs (k_4+1) u_5 v_5 (low_8.set k_4 (w64 ((low_8[k_4]?.getD 0)-delta_2))))
def XL (costs:List (List Int)) (miss:Int) (from_:Int) (taken:List Bool) (r2:Int) (k:Nat) (row:List Int):Nat→Int→(List Int)→(List Int)→(List Int)→(List Int)→(List Bool)→Option (Int×List Int×List Int×List Int×List Int×List Bool)
 | 0,_,_,_,_,_,_=>none
 | m+1,at_,u_3,v_3,way_3,low_3,used=>Y6 (Y2 costs miss from_ taken k row at_ u_3 v_3 used r2.toNat 0 1152921504606846976 0 way_3 low_3) (fun (delta_2,next_2,way_6,low_6) =>
   Y6 (YT k row delta_2 (used.set at_.toNat true) 0 u_3 v_3 low_6) (fun (u_6,v_6,low_9) =>
    cond (((row.set 0 (1+(k:Int)))[next_2.toNat]?.getD 0)==0) (
     some ((next_2,u_6,v_6,way_6,low_9,(used.set at_.toNat true)))) (
     XL costs miss from_ taken r2 k row m next_2 u_6 v_6 way_6 low_9 (used.set at_.toNat true))))
def Xi (way_4:List Int):Nat→Int→(List Int)→Option (List Int)
 | 0,_,_=>none
 | m+1,at__3,row_3=>cond (at__3 != 0) (
   Xi way_4 m (way_4[at__3.toNat]?.getD 0) (row_3.set at__3.toNat (row_3[(way_4[at__3.toNat]?.getD 0).toNat]?.getD 0))) (
   some (row_3))
def Q9 (costs:List (List Int)) (miss:Int) (from_:Int) (taken:List Bool) (r2:Int):Nat→Nat→(List Int)→(List Int)→(List Int)→(List Int)→(List Int×List Int×List Int×List Int)
 | 0,_,u,v,row,way=>(u,v,row,way)
 | m+1,k,u,v,row,way=>Y6 (YF ((w64 (r2+1)).toNat) 0 (List.replicate ((w64 (r2+1)).toNat) (0:Int))) (fun low_2 =>
   Y6 ((XL costs miss from_ taken r2 k row 100 0 u v way low_2 (List.replicate ((w64 (r2+1)).toNat) false)).getD default) (fun (at__2,u_4,v_4,way_4,_,_) =>
    Y6 ((Xi way_4 100 at__2 (row.set 0 (1+(k:Int)))).getD default) (fun row_4 =>
     Q9 costs miss from_ taken r2 m (k+1) u_4 v_4 row_4 way_4)))
def Qi (costs:List (List Int)) (miss:Int) (from_:Int) (taken:List Bool) (row_2:List Int):Nat→Nat→Int→Int
 | 0,_,sum_=>sum_
 | m+1,k_5,sum_=>cond (decide ((row_2[(1+(k_5:Int)).toNat]?.getD 0)>0)) (
   let r4:=Ys (w64 ((row_2[(1+(k_5:Int)).toNat]?.getD 0)-1)) (w64 ((1+(k_5:Int))-1)) (((costs.drop from_.toNat)[0]?.getD []).length:Int) miss taken (costs.drop from_.toNat)
   Qi costs miss from_ taken row_2 m (k_5+1) (w64 (sum_+r4))) (
   Qi costs miss from_ taken row_2 m (k_5+1) sum_)
def Z7 (costs:List (List Int)) (miss:Int) (from_:Int) (taken:List Bool):Int :=
 let r1:=((costs.drop from_.toNat).length:Int)
 cond (r1==0) (
  0) (
  let r2:=w64 ((((costs.drop from_.toNat)[0]?.getD []).length:Int)+r1)
  Y6 (Q9 costs miss from_ taken r2 r1.toNat 0 (List.replicate ((w64 (r1+1)).toNat) (0:Int)) (List.replicate ((w64 (r2+1)).toNat) (0:Int)) (List.replicate ((w64 (r2+1)).toNat) (0:Int)) (List.replicate ((w64 (r2+1)).toNat) (0:Int))) (fun (_,_,row_2,_) =>
   Y6 (Qi costs miss from_ taken row_2 r2.toNat 0 0) (fun sum__2 =>
    sum__2)))
end Go.Sky
end
