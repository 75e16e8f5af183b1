/- Lemmas toward the given statement (part 16 of 20): Kc ScaW Fli. Each theorem states its own conditions; nothing is assumed beyond them. -/
import Derived.Test.YtmiemlhgkgfkeaaGreatDoorTw15
import Derived.Test.YtmiemlhgkgfkeaaGreatDoorTw02
set_option maxRecDepth 100000
section
namespace Go.Sky
open Go Go.Eng Go.Proofs
open Go.Srt Go.Glue
def ZX (t:Zi) (time:Int):List followed→Nat→(List Track)→(List followed)→(List Track×List followed)
 | [],_,qi,all=>(qi,all)
 | x::xs,k,qi,all=>let r3:=Ye x.f time t.rules.Accel
  cond (r3.2==0) (
   ZX t time xs (k+1) (qi++([r3.1.Track])) (all++([x]))) (
   ZX t time xs (k+1) qi all)
def Yf (t:Zi) (r2:List Zm×Int) (r5:List Int×Int×Int):List followed→Nat→(List Bool)→(List followed)→(List Bool×List followed)
  | [],_,used,xs_=>(used,xs_)
  | x_2::xs,k_2,used,xs_=>Xq (cond (decide ((r5.1[k_2]?.getD 0)≥0)) (
              let r6:=Y0 x_2.f (r2.1[(r5.1[k_2]?.getD 0).toNat]?.getD Zm.zero) t.rules.Accel t.rules.Place t.rules.Speed
              cond (r6.2==0) (
                let r7:=JG r6.1
                ((used.set ((r5.1[k_2]?.getD 0).toNat) true),(⟨r7.1,x_2.history,true⟩:followed))) (
                (used,(⟨x_2.f,x_2.history,false⟩:followed)))) (
              (used,(⟨x_2.f,x_2.history,false⟩:followed)))) (fun (zh,x_3) =>
      cond (!x_3.hit) (
        let r8:=Xv x_3.f t.rules.Misses
        cond ((r8.2.2 != 0)||r8.2.1) (
          Yf t r2 r5 xs (k_2+1) zh xs_) (
          Yf t r2 r5 xs (k_2+1) zh (xs_++([(⟨r8.1,x_3.history,x_3.hit⟩:followed)])))) (
        Yf t r2 r5 xs (k_2+1) zh (xs_++([x_3]))))
def Yn (zb:List Bool):List Zm→Nat→Int→(List followed)→(Int×List followed)
 | [],_,next,q6=>(next,q6)
 | x_4::xs,k_3,next,q6=>cond (((zb[k_3]?.getD false))||(decide ((q6.length:Int)≥32))) (
   Yn zb xs (k_3+1) next q6) (
   let r9:=YM x_4
   Yn zb xs (k_3+1) (w64 (next+1)) (q6++([(⟨⟨⟨next,r9.1.Track.State,r9.1.Track.Time,r9.1.Track.At,r9.1.Track.Speed,r9.1.Track.Height,r9.1.Track.Rate,r9.1.Track.Radius,r9.1.Track.Code,r9.1.Track.Hits,r9.1.Track.Misses⟩,r9.1.Slack,r9.1.Last⟩,⟨0,0⟩,true⟩:followed)])))
def YY:List followed→Nat→(List Track)→(List Track)
 | [],_,out=>out
 | x_5::xs,k_4,out=>YY xs (k_4+1) (out++([x_5.f.Track]))
def Z5 (t:Zi) (l:List Zm) (time:Int):(List Track)×Int×Zi :=
 let r1:=Yb t l time
 cond (r1 != 0) (
  (([]:List Track),r1,t)) (
  let r2:=YA l 500
  Xq (cond (decide (t.last≥0)) (
   ZC 60000 (w64 (500+(w64 (200*(w64 (time-t.last))))))) (
   60000)) (fun qd =>
   Xq (ZX t time t.all 0 ([]:List Track) ([]:List followed)) (fun (zw,q7) =>
    let r4:=XK zw r2.1 qd
    let r5:=XF r4.1 2147483648
    Xq (Yf t r2 r5 q7 0 (List.replicate ((r2.1.length:Int).toNat) false) ([]:List followed)) (fun (zb,qt) =>
     Xq (Yn zb r2.1 0 t.next qt) (fun (zc,jy) =>
      let r10:=ZF (⟨t.rules,jy,zc,time⟩:Zi)
      let r11:=ZV r10 time
      Xq (YY r11.all 0 ([]:List Track)) (fun ql =>
       (ql,0,r11)))))))
theorem NL (t:Zi) (time:Int):∀ (xs:List followed) (k:Nat) (tr:List Track) (al:List followed),tr.length=al.length→Tr time tr →
  (ZX t time xs k tr al).1.length=(ZX t time xs k tr al).2.length∧(ZX t time xs k tr al).2.length≤al.length+xs.length∧Tr time (ZX t time xs k tr al).1
 | [],_,tr,al,h,h2=>⟨h,gG ..,h2⟩
 | x::xs,k,tr,al,h,h2=>by
  unfold ZX
  simp only
  cases hp:((Ye x.f time t.rules.Accel).2==0) with
  | true =>
   have h0:(Ye x.f time t.rules.Accel).2=0:=by simpa using hp
   have ih:=NL t time xs (k+1) (tr ++ [(Ye x.f time t.rules.Accel).1.Track]) (al ++ [x]) (by simp[h]) (fun y hy=>by
    rcases bD.1 hy with hy|hy
    ·exact h2 y hy
    ·rw[aV.1 hy];exact⟨(Rf h0).1,(Hm h0).1⟩)
   rw[cond_true]
   exact⟨ih.1,by have:=ih.2.1;simp only[aI,aG,bJ] at this ⊢;omega,ih.2.2⟩
  | false =>
   have ih:=NL t time xs (k+1) tr al h h2
   rw[cond_false]
   exact⟨ih.1,by have:=ih.2.1;rw[aG];omega,ih.2.2⟩
theorem D1 {t:Zi} {l:List Zm} {time r1:Int} {r2:List Zm×Int} (hr1:Yb t l time=r1) (h1:(r1 != 0)=false) (hr2:YA l 500=r2):r2.1.length≤32∧Sp time r2.1∧(0≤time∧time≤200000)∧t.last<time:=by
 have h0:=L8.1 (hr1.trans (by simpa using h1))
 have:=L9 h0.1 h0.2.2.2 hr2
 exact⟨by omega,this.2,h0.2.1,h0.2.2.1⟩
theorem TV {t:Zi} {time qd:Int} (ht:0≤time∧time≤200000) (hl:t.last<time) (hJ:(cond (decide (t.last≥0)) (ZC 60000 (w64 (500+(w64 (200*(w64 (time-t.last))))))) 60000)=qd):0≤qd∧qd≤60000:=by
 subst hJ
 by_cases h:t.last≥0
 ·rw[decide_eq_true h,cond_true,Zu (x:=time-t.last) (by omega),Zu (x:=200*(time-t.last)) (by omega),Zu (by omega)]
  unfold ZC
  split <;> omega
 ·rw[decide_eq_false h,cond_false];omega
theorem TW {t:Zi} {l:List Zm} {time r1 qd:Int} {r2:List Zm×Int} {tr:List Track} {al:List followed} {r4:List (List Int)×Int} {r5:List Int×Int×Int} (h1:(r1 != 0)=false) (hr1:Yb t l time=r1) (hr2:YA l 500=r2)
  (hJ:(cond (decide (t.last≥0)) (ZC 60000 (w64 (500+(w64 (200*(w64 (time-t.last))))))) 60000)=qd) (hL:ZX t time t.all 0 [] []=(tr,al)) (h4:XK tr r2.1 qd=r4) (h5:XF r4.1 2147483648=r5) (hn:t.all.length≤32) :
  r5.1.length=al.length∧∀ k∈r5.1,k<(r2.1.length:Int):=by
 have hs:=D1 hr1 h1 hr2
 have hl:=NL t time t.all 0 [] [] rfl (fun _ h=>by cases h)
 rw[hL] at hl
 simp only[bJ,bB] at hl
 have:=E8 (by omega) hs.1 (TV hs.2.2.1 hs.2.2.2 hJ) hl.2.2 hs.2.1 h4 h5
 exact⟨by omega,this.2⟩
theorem Xw {l:List Int} {n:Int} {i:Nat} (h:∀ k∈l,k<n) (hi:i<l.length):l[i]?.getD 0<n:=by
 rw[aS hi];exact h _ (fJ hi)
set_option maxHeartbeats 4000000 in
theorem Vj (b_t:Nat) (t:Zi) (A_t_all:Option Addr) (qc:Nat) (A_l:Option Addr) (c_l:Nat) (l:List Zm) (time:Int) (w:World) (hM:Sat ⟨w,XS [.inl (b_t,.cells (Zi.k t A_t_all qc) 104 (0,0)),.inr (Own A_t_all qc 111 23 (t.all.map followed.c)),.inr (Own A_l c_l 46 6 (l.map Zm.c))]⟩ [.inl (b_t,.cells (Zi.k t A_t_all qc) 104 (0,0)),.inr (Own A_t_all qc 111 23 (t.all.map followed.c)),.inr (Own A_l c_l 46 6 (l.map Zm.c))] w) (hn:t.all.length≤32):Calls Tryz.prog 19 #[.pointer (some ⟨b_t,0,none⟩),.slice A_l l.length c_l,.int .i64 time] w (JD (Γ:=(Option Addr×Nat)×(Option Addr×Nat)) ⟨w,XS [.inl (b_t,.cells (Zi.k t A_t_all qc) 104 (0,0)),.inr (Own A_t_all qc 111 23 (t.all.map followed.c)),.inr (Own A_l c_l 46 6 (l.map Zm.c))]⟩ (fun g=>.tuple #[.slice g.1.1 (((Z5 t l time).1).length) g.1.2,.int .i64 ((Z5 t l time).2.1)]) (fun g=>[.inl (b_t,.cells (Zi.k (⟨⟨((Z5 t l time).2.2).rules.Need,((Z5 t l time).2.2).rules.Of,((Z5 t l time).2.2).rules.Misses,((Z5 t l time).2.2).rules.Accel,((Z5 t l time).2.2).rules.Place,((Z5 t l time).2.2).rules.Speed⟩,((Z5 t l time).2.2).all,((Z5 t l time).2.2).next,((Z5 t l time).2.2).last⟩:Zi) g.2.1 g.2.2) 104 (0,0)),.inr (Own g.2.1 g.2.2 111 23 ((((Z5 t l time).2.2).all).map followed.c)),.inr (Own A_l c_l 46 6 (l.map Zm.c)),.inr (Own g.1.1 g.1.2 70 13 (((Z5 t l time).1).map Track.c))])):=by
 refine YW (w0:=⟨w,XS [Bk b_t (Zi.k t A_t_all qc) 104,Ow A_t_all qc 111 23 (t.all.map followed.c),Ow A_l c_l 46 6 (l.map Zm.c)]⟩) (vs:=[.p0 b_t,.slice A_l l.length c_l,.i time]) hM Tryz.func19 rfl Tryz.ntmps19 rfl (Gn (fun w hM=>hM.short_at 1 rfl) (fun yo=>Gn (fun w hM=>hM.short_at 2 rfl) (fun s_l=>Ze (Zc 2 [] [(6,.slice none 0 0),(7,.i 0)] {} (Zz (Ze (Zc 3 [] [(39,.p0 b_t),(40,.slice A_l l.length c_l),(41,.i time)] {} (TL.c 42 (Yb t l time) (fun r1=>.i r1) (fun w hM=>UO ⟨b_t,0,none⟩ t A_t_all qc A_l c_l l time w (Rd.lit hM 0 _ rfl Kr Kr Kr) (hM.rd_at 1 rfl) (hM.le_at 1 rfl) (hM.rd_at 2 rfl) (hM.le_at 2 rfl)) {} (fun r1 hr1=>Zc 5 [] [(8,.i r1)] {} (Zv (Zc 2 [] [(44,.b (r1 != 0))] {} (Zb rfl (TC.cond (r1 != 0) rfl Kr (fun h1=>?_) (fun h1=>?_))))))))))))))
 ·refine Ze (Zc 3 [] [(6,.slice none 0 0),(7,.i r1)] {} (Zb rfl (TC.ret (Zq (Yp [Ow none 0 70 13 (([]:List Track).map Track.c),Bk b_t (Zi.k t A_t_all qc) 104,Ow A_t_all qc 111 23 (t.all.map followed.c),Ow A_l c_l 46 6 (l.map Zm.c)] (fun _ hM=>hM.emptyrow none 70 13) ?_)))))
  have e:Z5 t l time=(([]:List Track),r1,t):=by subst hr1;unfold Z5;exact Zk h1 (rfl)
  refine Yp [Bk b_t (Zi.k t A_t_all qc) 104,Ow A_t_all qc 111 23 (t.all.map followed.c),Ow A_l c_l 46 6 (l.map Zm.c),Ow none 0 70 13 (([]:List Track).map Track.c)] (fun _ hM=>hM.perm (px [1,2,3,0])) ?_
  rw[e]
  exact ZN (.inl rfl) ((none,0),(A_t_all,qc)) [] (.tuple #[.slice none (([]:List Track).length) 0,.i r1]) {} rfl (fun _ hM=>hM.sub (sb 15))
 ·have j4:=(Jb h1)
  refine ZI (Zc 1 [] [(47,.slice A_l l.length c_l)] {} (UR (Γ:=AN) 48 (YA l 500) (fun r2 g=>.tuple #[.slice g.1 r2.1.length g.2,.i r2.2]) (fun r2 g=>[Ow g.1 g.2 46 6 (r2.1.map Zm.c)]) (fun w hM=>Hi A_l c_l l 500 w (hM.rd_at 2 rfl) (hM.le_at 2 rfl)) {} (fun r2 hr2=>?_)))
  have ks_:=(D1 hr1 h1 hr2).1
  rintro⟨A,c⟩
  refine Y2 (fun w hM=>hM.short_at 0 rfl) (fun iz=>Zc 7 [] [(9,.slice A r2.1.length c)] {} (Zv (Zc 1 [] [(11,.i 60000)] {} (Zz (Ze (Zc 5 [1] [(55,.b (decide (t.last≥0)))] {} (Zb rfl ?_)))))))
  refine TC.cut (S:=Int) (fun qd=>[(0,.p0 b_t),(2,.i time),(9,.slice A r2.1.length c),(11,.i qd)]) (fun qd=>[Ow A c 46 6 (r2.1.map Zm.c),Bk b_t (Zi.k t A_t_all qc) 104,Ow A_t_all qc 111 23 (t.all.map followed.c),Ow A_l c_l 46 6 (l.map Zm.c)]) (fun qd=>(cond (decide (t.last≥0)) (
   ZC 60000 (w64 (500+(w64 (200*(w64 (time-t.last))))))) (
   60000))=qd) ?_ ?_
  ·refine TC.cond (decide (t.last≥0)) rfl Kr (fun h2=>?_) (fun h2=>?_)
   ·exact TC.region (Zc 11 [1] [(11,.i (ZC 60000 (w64 (500+(w64 (200*(w64 (time-t.last))))))))] {} (Z2 rfl (TE.cut (ZC 60000 (w64 (500+(w64 (200*(w64 (time-t.last))))))) (by subst hr1 hr2;exact Zk h2 (rfl)) Kr (sb 15))))
   ·exact TC.skip (TE.cut 60000 (by subst hr1 hr2;exact Zd h2 (rfl)) Kr (sb 15))
  ·rintro qd hJ
   refine YZ (Zc 4 [] [(67,.i time),(69,.pt b_t 8)] {} (Ym 1 (Bk b_t (Zi.k (⟨t.rules,t.all,t.next,time⟩:Zi) A_t_all qc) 104) (fun _=>{}) (Zv (Zc 1 [] [(12,.slice none 0 0)] {} (Zv (Zc 1 [] [(13,.slice none 0 0)] {} (Zz (Ze (Zc 6 [1] [(73,.slice A_t_all t.all.length qc),(74,.i (t.all.length:Int)),(75,.i 0)] {} (Zb rfl (QS [Ow none 0 70 13 (([]:List Track).map Track.c),Ow A c 46 6 (r2.1.map Zm.c),Bk b_t (Zi.k (⟨t.rules,t.all,t.next,time⟩:Zi) A_t_all qc) 104,Ow A_t_all qc 111 23 (t.all.map followed.c),Ow A_l c_l 46 6 (l.map Zm.c)] (fun _ hM=>hM.emptyrow none 70 13) (QS [Ow none 0 111 23 (([]:List followed).map followed.c),Ow none 0 70 13 (([]:List Track).map Track.c),Ow A c 46 6 (r2.1.map Zm.c),Bk b_t (Zi.k (⟨t.rules,t.all,t.next,time⟩:Zi) A_t_all qc) 104,Ow A_t_all qc 111 23 (t.all.map followed.c),Ow A_l c_l 46 6 (l.map Zm.c)] (fun _ hM=>hM.emptyrow none 111 23) ?_))))))))))))
   obtain⟨R4,hR⟩:∃ R,R=ZX t time t.all 0 ([]:List Track) ([]:List followed):=⟨_,rfl⟩
   refine TC.cut (S:=(List Track)×(List followed)×(Option Addr)×Nat×(Option Addr)×Nat) (fun (zw,q7,A_tracks_2,xr,A_all_2,q8)=>[(0,.p0 b_t),(2,.i time),(9,.slice A r2.1.length c),(11,.i qd),(12,.slice A_tracks_2 zw.length xr),(13,.slice A_all_2 q7.length q8)]) (fun (zw,q7,A_tracks_2,xr,A_all_2,q8)=>[Ow A_all_2 q8 111 23 (q7.map followed.c),Ow A_tracks_2 xr 70 13 (zw.map Track.c),Ow A c 46 6 (r2.1.map Zm.c),Bk b_t (Zi.k (⟨t.rules,t.all,t.next,time⟩:Zi) A_t_all qc) 104,Ow A_t_all qc 111 23 (t.all.map followed.c),Ow A_l c_l 46 6 (l.map Zm.c)]) (fun (zw,q7,A_tracks_2,xr,A_all_2,q8)=>R4=(zw,q7)∧zw.length≤t.all.length∧q7.length≤t.all.length) ?_ ?_
   ·refine TC.block (XB (X:=Nat×(List Track)×(List followed)×(Option Addr)×Nat×(Option Addr)×Nat) (fun (k,qi,all,A_tracks,qp,A_all,xv)=>[(0,.p0 b_t),(2,.i time),(9,.slice A r2.1.length c),(11,.i qd),(12,.slice A_tracks qi.length qp),(13,.slice A_all all.length xv),(73,.slice A_t_all t.all.length qc),(74,.i (t.all.length:Int)),(75,.i (k:Int))]) (fun (k,qi,all,A_tracks,qp,A_all,xv)=>[Ow A_all xv 111 23 (all.map followed.c),Ow A_tracks qp 70 13 (qi.map Track.c),Ow A c 46 6 (r2.1.map Zm.c),Bk b_t (Zi.k (⟨t.rules,t.all,t.next,time⟩:Zi) A_t_all qc) 104,Ow A_t_all qc 111 23 (t.all.map followed.c),Ow A_l c_l 46 6 (l.map Zm.c)]) (fun (k,qi,all,A_tracks,qp,A_all,xv)=>t.all.length-k) (fun (k,qi,all,A_tracks,qp,A_all,xv)=>k≤t.all.length∧R4=ZX t time (t.all.drop k) k qi all∧qi.length≤k∧all.length≤k) ?_ (0,([]:List Track),([]:List followed),none,0,none,0) ⟨aN _,hR,sz,sz⟩ Kr (sb 63))
    rintro⟨k,qi,all,A_tracks,qp,A_all,xv⟩ ⟨hk,hI,tl,i6⟩
    refine Ze (Zc 1 [] [(76,.b (decide ((k:Int)<(t.all.length:Int))))] {} (Zz (TC.cond (decide ((k:Int)<(t.all.length:Int))) rfl Kr (fun h3=>?_) (fun h3=>?_))))
    ·have hlt:=ltN h3
     obtain⟨x,hx⟩:=elN hlt
     have hd:=drop_at hx
     refine Yg (TC.seq (TC.block (Ze (TL.v (sV (Instr.indexAt 102 (.slice A_t_all t.all.length qc) (.i (k:Int)))) 77 (.pointer (some (Ix A_t_all (k*23)))) (fun w hM=>Zy (hM.rd_at 4 rfl) (by simp) Kr (by (try have kx_:=Xw kb_.2 (show k_2<_ by omega));exact sd) (by (try have kx_:=Xw kb_.2 (show k_2<_ by omega));exact sd)) {} (TL.v (sV (Instr.loadAt 111 (.pointer (some (Ix A_t_all (k*23)))))) 78 (followed.v x) (fun w hM=>Yd (n:=23) (off:=0) (i:=k) (followed.v x) (hM.rd_at 4 rfl) (ZR hx) Kr Kr Kr) {} (ZH 15 (fun b1=>.p0 b1) (fun b1=>Bk b1 (followed.c followed.zero) 111) (fun b1=>{}) (fun b1=>Ym 0 (Bk b1 (followed.c x) 111) (fun _=>{}) (Zz ?_))))))))
     obtain⟨r3,hr3⟩:∃ r,Ye x.f time t.rules.Accel=r:=⟨_,rfl⟩
     let Mr14_:Mem:=[Bk b1 (followed.c x) 111,Ow A_all xv 111 23 (all.map followed.c),Ow A_tracks qp 70 13 (qi.map Track.c),Ow A c 46 6 (r2.1.map Zm.c),Bk b_t (Zi.k (⟨t.rules,t.all,t.next,time⟩:Zi) A_t_all qc) 104,Ow A_t_all qc 111 23 (t.all.map followed.c),Ow A_l c_l 46 6 (l.map Zm.c)]
     refine Jt (G:=Nat) (base:=[(0,.p0 b_t),(2,.i time),(9,.slice A r2.1.length c),(11,.i qd),(12,.slice A_tracks qi.length qp),(13,.slice A_all all.length xv),(15,.p0 b1),(73,.slice A_t_all t.all.length qc),(74,.i (t.all.length:Int)),(75,.i (k:Int))]) (vals:=fun γ=>[.p0 b1,Za.v x.f,.i time,.p0 b_t,.p0 b_t,.p0 b_t,.pt b_t 3,.i t.rules.Accel,.tuple #[Za.v r3.1,.i r3.2],.tuple #[Za.v r3.1,.i r3.2],Za.v r3.1,.i r3.2,.p0 γ,undef,.i r3.2]) (writes:=[12,13]) (mem:=fun bs γ=>match bs with | [uh,x13_]=>(bif x13_ then [Bk γ (Za.c r3.1) 107] else bif uh then [Bk γ (Za.c Za.zero) 107] else [])++(Mr14_)|_=>[]) (0) (fun γ=>[(0,.p0 b_t),(2,.i time),(9,.slice A r2.1.length c),(11,.i qd),(12,.slice A_tracks qi.length qp),(13,.slice A_all all.length xv),(15,.p0 b1),(16,.p0 γ),(17,.i r3.2),(73,.slice A_t_all t.all.length qc),(74,.i (t.all.length:Int)),(75,.i (k:Int))]) Kr Kr Kr Kr Kr (fun γ=>Kr) (fun _ hM=>hM) (fun γ=>Kr) ?_ ?_
     ·skip
      exact Steps.run (i:=0) 8 [0,0,0,0,0,0,0,4] Mr14_ Kr Kr (fun S (γ:Nat) w hM=>by rw[mS2 rfl rfl] at hM;exact hM.sub (Zh (aA _))) Kr (fun (γ:Nat)=>{}) (Steps.call (i:=8) 45 (fun (γ:Nat)=>#[Za.v x.f,.i time,.i t.rules.Accel]) (some 88) (fun (γ:Nat)=>.tuple #[Za.v r3.1,.i r3.2]) (fun (γ:Nat)=>[Bk b1 (followed.c x) 111,Ow A_all xv 111 23 (all.map followed.c),Ow A_tracks qp 70 13 (qi.map Track.c),Ow A c 46 6 (r2.1.map Zm.c),Bk b_t (Zi.k (⟨t.rules,t.all,t.next,time⟩:Zi) A_t_all qc) 104,Ow A_t_all qc 111 23 (t.all.map followed.c),Ow A_l c_l 46 6 (l.map Zm.c)]) Kr (fun S (γ:Nat) w _ hM=>by rw[mS2 rfl rfl] at hM;exact hM.sub (Zh (aA _))) (fun (γ:Nat) w _=>by have h:=UL x.f time t.rules.Accel w;rw[hr3] at h;exact h) (fun (γ:Nat)=>Kr) (fun (γ:Nat)=>Kr) (Steps.run (i:=9) 12 [0,0,0] Mr14_ Kr Kr (fun S (γ:Nat) w hM=>by rw[mS2 rfl rfl] at hM;exact hM.sub (Zh (aA _))) Kr (fun (γ:Nat)=>{}) (Steps.op (i:=12) (Γ:=Nat) (fun g (γ:Nat)=>g) (fun _=>[]) (fun b (γ:Nat)=>[Bk b (Za.c Za.zero) 107]) (fun S (γ:Nat)=>Mr14_) [12,13,14] (fun (γ:Nat)=>sV (Instr.alloc 107 true (.tuple #[]))) (some 16) (fun b (γ:Nat)=>.p0 b) (fun S (γ:Nat) hj hd hl=>by rw[mS2 hj (hl 13 Kr)];exact aC _) (fun S (γ:Nat) g hl=>by rw[mS2 (S:=upS S 12) (a0:=12) (a1:=13) rfl (hl 13 Kr)];exact(aC _).symm) (fun (γ:Nat) M' w hM=>Jd (v:=fun b=>.p0 b) (fun b M=>Kr) M' w hM) (fun (γ:Nat)=>Kr) (fun (γ:Nat) g=>Kr) Kr (fun (γ:Nat) g=>Kr) (Steps.put (i:=13) (fun (γ:Nat)=>[Bk γ (Za.c Za.zero) 107]) (fun (γ:Nat)=>[Bk γ (Za.c r3.1) 107]) (fun S (γ:Nat)=>Mr14_) (fun (γ:Nat)=>sU (Instr.storeAt 107 (.p0 γ) (Za.v r3.1))) none (fun S (γ:Nat) hj hd hl=>by rw[mS2 (hd 12 Kr) hj];exact aC _) (fun S (γ:Nat) _=>(aC _).symm) (fun (γ:Nat) M' w hM=>JJ (fun b M=>Kr) (fun b M=>Kr) M' w hM) (fun (γ:Nat)=>Kr) (fun (γ:Nat)=>Kr) (Steps.run (i:=14) 15 [0] Mr14_ Kr Kr (fun S (γ:Nat) w hM=>by rw[mS2 rfl rfl] at hM;exact hM.sub (Zh (aA _))) Kr (fun (γ:Nat)=>{}) (XH Kr))))))
     ·rintro b2
      refine Yp [Bk b2 (Za.c r3.1) 107,Bk b1 (followed.c x) 111,Ow A_all xv 111 23 (all.map followed.c),Ow A_tracks qp 70 13 (qi.map Track.c),Ow A c 46 6 (r2.1.map Zm.c),Bk b_t (Zi.k (⟨t.rules,t.all,t.next,time⟩:Zi) A_t_all qc) 104,Ow A_t_all qc 111 23 (t.all.map followed.c),Ow A_l c_l 46 6 (l.map Zm.c)] (fun _ hM=>hM) (YZ (Zc 2 [] [(92,.b (r3.2==0))] {} (Zb rfl (TC.cond (r3.2==0) rfl Kr (fun h4=>?_) (fun h4=>?_)))))
      ·have yl:=(Xf h4)
       let Mr16_:Mem:=[Bk b2 (Za.c r3.1) 107,Bk b1 (followed.c x) 111,Ow A c 46 6 (r2.1.map Zm.c),Bk b_t (Zi.k (⟨t.rules,t.all,t.next,time⟩:Zi) A_t_all qc) 104,Ow A_t_all qc 111 23 (t.all.map followed.c),Ow A_l c_l 46 6 (l.map Zm.c)]
       refine Jt (G:=Nat×AN×Nat×AN) (base:=[(0,.p0 b_t),(2,.i time),(9,.slice A r2.1.length c),(11,.i qd),(12,.slice A_tracks qi.length qp),(13,.slice A_all all.length xv),(15,.p0 b1),(16,.p0 b2),(73,.slice A_t_all t.all.length qc),(74,.i (t.all.length:Int)),(75,.i (k:Int))]) (vals:=fun γ=>[.slice A_tracks qi.length qp,.p0 b2,Track.v r3.1.Track,.slice (Pa γ.1) 1 1,.slice (γ.2.1.1) ((qi++([r3.1.Track])).length) (γ.2.1.2),.slice A_all all.length xv,followed.v x,.slice (Pa γ.2.2.1) 1 1,.slice (γ.2.2.2.1) ((all++([x])).length) (γ.2.2.2.2),.slice (γ.2.1.1) ((qi++([r3.1.Track])).length) (γ.2.1.2),.slice (γ.2.2.2.1) ((all++([x])).length) (γ.2.2.2.2)]) (writes:=[3,4,7,8]) (mem:=fun bs γ=>match bs with | [x3_,x4_,x7_,x8_]=>(bif x3_ then [Bk γ.1 (Track.c r3.1.Track) 70] else [])++((bif x4_ then [Ow (γ.2.1.1) (γ.2.1.2) 70 13 ((qi++([r3.1.Track])).map Track.c)] else [Ow A_tracks qp 70 13 (qi.map Track.c)])++((bif x7_ then [Bk γ.2.2.1 (followed.c x) 111] else [])++((bif x8_ then [Ow (γ.2.2.2.1) (γ.2.2.2.2) 111 23 ((all++([x])).map followed.c)] else [Ow A_all xv 111 23 (all.map followed.c)])++(Mr16_))))|_=>[]) (0,(none,0),0,(none,0)) (fun γ=>[(0,.p0 b_t),(2,.i time),(9,.slice A r2.1.length c),(11,.i qd),(12,.slice (γ.2.1.1) ((qi++([r3.1.Track])).length) (γ.2.1.2)),(13,.slice (γ.2.2.2.1) ((all++([x])).length) (γ.2.2.2.2)),(73,.slice A_t_all t.all.length qc),(74,.i (t.all.length:Int)),(75,.i (k:Int))]) Kr Kr Kr Kr Kr (fun γ=>Kr) (fun _ hM=>hM.perm (px [3,2,0,1,4,5,6,7])) (fun γ=>Kr) ?_ ?_
       ·skip
        exact Steps.run (i:=0) 3 [0,0,0] Mr16_ Kr Kr (fun S (γ:Nat×AN×Nat×AN) w hM=>by rw[mS4 rfl rfl rfl rfl] at hM;exact hM.sub (Zh (Zh (Zh (Zh (aA _)))))) Kr (fun (γ:Nat×AN×Nat×AN)=>{}) (Steps.op (i:=3) (Γ:=Nat) (fun g (γ:Nat×AN×Nat×AN)=>(g,γ.2.1,γ.2.2.1,γ.2.2.2)) (fun _=>[]) (fun b (γ:Nat×AN×Nat×AN)=>[Bk b (Track.c r3.1.Track) 70]) (fun S (γ:Nat×AN×Nat×AN)=>(bif S 4 then [Ow (γ.2.1.1) (γ.2.1.2) 70 13 ((qi++([r3.1.Track])).map Track.c)] else [Ow A_tracks qp 70 13 (qi.map Track.c)])++((bif S 7 then [Bk γ.2.2.1 (followed.c x) 111] else [])++((bif S 8 then [Ow (γ.2.2.2.1) (γ.2.2.2.2) 111 23 ((all++([x])).map followed.c)] else [Ow A_all xv 111 23 (all.map followed.c)])++(Mr16_)))) [3,4,8,9,10] (fun (γ:Nat×AN×Nat×AN)=>sV (Instr.buildSlice 66 1 #[(0,Track.v r3.1.Track)])) (some 96) (fun b (γ:Nat×AN×Nat×AN)=>.slice (Pa b) 1 1) (fun S (γ:Nat×AN×Nat×AN) hj hd hl=>by rw[mS4 hj rfl rfl rfl];exact aC _) (fun S (γ:Nat×AN×Nat×AN) g _=>(aC _).symm) (fun (γ:Nat×AN×Nat×AN) M' w hM=>Jd (v:=fun b=>.slice (Pa b) 1 1) (fun b M=>Kr) M' w hM) (fun (γ:Nat×AN×Nat×AN)=>Kr) (fun (γ:Nat×AN×Nat×AN) g=>Kr) Kr (fun (γ:Nat×AN×Nat×AN) g=>Kr) (Vz (i:=4) (Γ:=AN) (fun g (γ:Nat×AN×Nat×AN)=>(γ.1,g,γ.2.2.1,γ.2.2.2)) (fun (γ:Nat×AN×Nat×AN)=>[Ow A_tracks qp 70 13 (qi.map Track.c),Bk γ.1 (Track.c r3.1.Track) 70]) (fun g (γ:Nat×AN×Nat×AN)=>[Ow (g.1) (g.2) 70 13 ((qi++([r3.1.Track])).map Track.c),Bk γ.1 (Track.c r3.1.Track) 70]) (fun S (γ:Nat×AN×Nat×AN)=>(bif S 7 then [Bk γ.2.2.1 (followed.c x) 111] else [])++((bif S 8 then [Ow (γ.2.2.2.1) (γ.2.2.2.2) 111 23 ((all++([x])).map followed.c)] else [Ow A_all xv 111 23 (all.map followed.c)])++(Mr16_))) [4,8,9,10] (fun (γ:Nat×AN×Nat×AN)=>sV (Builtin.append_ #[66,66] 66 #[.slice A_tracks qi.length qp,.slice (Pa γ.1) 1 1])) (some 97) (fun g (γ:Nat×AN×Nat×AN)=>.slice (g.1) ((qi++([r3.1.Track])).length) (g.2)) (fun S (γ:Nat×AN×Nat×AN) hj hd hl=>by change List.Perm (((bif S 3 then [Bk γ.1 (Track.c r3.1.Track) 70] else [])++((bif S 4 then [Ow (γ.2.1.1) (γ.2.1.2) 70 13 ((qi++([r3.1.Track])).map Track.c)] else [Ow A_tracks qp 70 13 (qi.map Track.c)])++((bif S 7 then [Bk γ.2.2.1 (followed.c x) 111] else [])++((bif S 8 then [Ow (γ.2.2.2.1) (γ.2.2.2.2) 111 23 ((all++([x])).map followed.c)] else [Ow A_all xv 111 23 (all.map followed.c)])++(Mr16_))))):Mem) _;rw[hj,hd 3 Kr];exact((aB _ (aC _)).trans (ZP _ _ _)).trans (aB _ ((aC _).trans (aB _ (aC _))))) (fun S (γ:Nat×AN×Nat×AN) g _ hd hl=>by change List.Perm ([Ow (g.1) (g.2) 70 13 ((qi++([r3.1.Track])).map Track.c)]++([Bk γ.1 (Track.c r3.1.Track) 70]++((bif S 7 then [Bk γ.2.2.1 (followed.c x) 111] else [])++((bif S 8 then [Ow (γ.2.2.2.1) (γ.2.2.2.2) 111 23 ((all++([x])).map followed.c)] else [Ow A_all xv 111 23 (all.map followed.c)])++(Mr16_))))) (((bif S 3 then [Bk γ.1 (Track.c r3.1.Track) 70] else [])++((bif true then [Ow (g.1) (g.2) 70 13 ((qi++([r3.1.Track])).map Track.c)] else [Ow A_tracks qp 70 13 (qi.map Track.c)])++((bif S 7 then [Bk γ.2.2.1 (followed.c x) 111] else [])++((bif S 8 then [Ow (γ.2.2.2.1) (γ.2.2.2.2) 111 23 ((all++([x])).map followed.c)] else [Ow A_all xv 111 23 (all.map followed.c)])++(Mr16_))))):Mem);rw[hd 3 Kr];exact(((aB _ (aC _)).trans (ZP _ _ _)).trans (aB _ ((aC _).trans (aB _ (aC _))))).symm) (fun (γ:Nat×AN×Nat×AN) M' w hM=>Jc (bytes:=104) 66 0 ([r3.1.Track]) Kr rfl rfl Track.one rfl (fun w hM=>(Rd.lit hM 1 _ rfl Kr Kr Kr)) rfl (by (try have kx_:=Xw kb_.2 (show k_2<_ by omega));exact sa) w hM) (fun (γ:Nat×AN×Nat×AN)=>Kr) (fun (γ:Nat×AN×Nat×AN) g=>Kr) Kr (fun (γ:Nat×AN×Nat×AN) g=>Kr) (Steps.run (i:=5) 7 [0,1] Mr16_ Kr Kr (fun S (γ:Nat×AN×Nat×AN) w hM=>by rw[mS4 rfl rfl rfl rfl] at hM;exact hM.sub (Zh (Zh (Zh (Zh (aA _)))))) Kr (fun (γ:Nat×AN×Nat×AN)=>{}) (Steps.op (i:=7) (Γ:=Nat) (fun g (γ:Nat×AN×Nat×AN)=>(γ.1,γ.2.1,g,γ.2.2.2)) (fun _=>[]) (fun b (γ:Nat×AN×Nat×AN)=>[Bk b (followed.c x) 111]) (fun S (γ:Nat×AN×Nat×AN)=>(bif S 3 then [Bk γ.1 (Track.c r3.1.Track) 70] else [])++((bif S 4 then [Ow (γ.2.1.1) (γ.2.1.2) 70 13 ((qi++([r3.1.Track])).map Track.c)] else [Ow A_tracks qp 70 13 (qi.map Track.c)])++((bif S 8 then [Ow (γ.2.2.2.1) (γ.2.2.2.2) 111 23 ((all++([x])).map followed.c)] else [Ow A_all xv 111 23 (all.map followed.c)])++(Mr16_)))) [7,8,9,10] (fun (γ:Nat×AN×Nat×AN)=>sV (Instr.buildSlice 102 1 #[(0,followed.v x)])) (some 100) (fun b (γ:Nat×AN×Nat×AN)=>.slice (Pa b) 1 1) (fun S (γ:Nat×AN×Nat×AN) hj hd hl=>by rw[mS4 rfl rfl hj rfl];exact(aB _ ((aB _ (aC _)).trans (ZP _ _ _))).trans (ZP _ _ _)) (fun S (γ:Nat×AN×Nat×AN) g _=>((aB _ ((aB _ (aC _)).trans (ZP _ _ _))).trans (ZP _ _ _)).symm) (fun (γ:Nat×AN×Nat×AN) M' w hM=>Jd (v:=fun b=>.slice (Pa b) 1 1) (fun b M=>Kr) M' w hM) (fun (γ:Nat×AN×Nat×AN)=>Kr) (fun (γ:Nat×AN×Nat×AN) g=>Kr) Kr (fun (γ:Nat×AN×Nat×AN) g=>Kr) (Vz (i:=8) (Γ:=AN) (fun g (γ:Nat×AN×Nat×AN)=>(γ.1,γ.2.1,γ.2.2.1,g)) (fun (γ:Nat×AN×Nat×AN)=>[Ow A_all xv 111 23 (all.map followed.c),Bk γ.2.2.1 (followed.c x) 111]) (fun g (γ:Nat×AN×Nat×AN)=>[Ow (g.1) (g.2) 111 23 ((all++([x])).map followed.c),Bk γ.2.2.1 (followed.c x) 111]) (fun S (γ:Nat×AN×Nat×AN)=>(bif S 3 then [Bk γ.1 (Track.c r3.1.Track) 70] else [])++((bif S 4 then [Ow (γ.2.1.1) (γ.2.1.2) 70 13 ((qi++([r3.1.Track])).map Track.c)] else [Ow A_tracks qp 70 13 (qi.map Track.c)])++(Mr16_))) [8,9,10] (fun (γ:Nat×AN×Nat×AN)=>sV (Builtin.append_ #[102,102] 102 #[.slice A_all all.length xv,.slice (Pa γ.2.2.1) 1 1])) (some 101) (fun g (γ:Nat×AN×Nat×AN)=>.slice (g.1) ((all++([x])).length) (g.2)) (fun S (γ:Nat×AN×Nat×AN) hj hd hl=>by change List.Perm (((bif S 3 then [Bk γ.1 (Track.c r3.1.Track) 70] else [])++((bif S 4 then [Ow (γ.2.1.1) (γ.2.1.2) 70 13 ((qi++([r3.1.Track])).map Track.c)] else [Ow A_tracks qp 70 13 (qi.map Track.c)])++((bif S 7 then [Bk γ.2.2.1 (followed.c x) 111] else [])++((bif S 8 then [Ow (γ.2.2.2.1) (γ.2.2.2.2) 111 23 ((all++([x])).map followed.c)] else [Ow A_all xv 111 23 (all.map followed.c)])++(Mr16_))))):Mem) _;rw[hj,hd 7 Kr];exact((aB _ ((aB _ ((aB _ (aC _)).trans (ZP _ _ _))).trans (ZP _ _ _))).trans (ZP _ _ _)).trans (aB _ (((aB _ ((aB _ (aC _)).trans (ZP _ _ _))).trans (ZP _ _ _)).trans (aB _ (aC _))))) (fun S (γ:Nat×AN×Nat×AN) g _ hd hl=>by change List.Perm ([Ow (g.1) (g.2) 111 23 ((all++([x])).map followed.c)]++([Bk γ.2.2.1 (followed.c x) 111]++((bif S 3 then [Bk γ.1 (Track.c r3.1.Track) 70] else [])++((bif S 4 then [Ow (γ.2.1.1) (γ.2.1.2) 70 13 ((qi++([r3.1.Track])).map Track.c)] else [Ow A_tracks qp 70 13 (qi.map Track.c)])++(Mr16_))))) (((bif S 3 then [Bk γ.1 (Track.c r3.1.Track) 70] else [])++((bif S 4 then [Ow (γ.2.1.1) (γ.2.1.2) 70 13 ((qi++([r3.1.Track])).map Track.c)] else [Ow A_tracks qp 70 13 (qi.map Track.c)])++((bif S 7 then [Bk γ.2.2.1 (followed.c x) 111] else [])++((bif true then [Ow (g.1) (g.2) 111 23 ((all++([x])).map followed.c)] else [Ow A_all xv 111 23 (all.map followed.c)])++(Mr16_))))):Mem);rw[hd 7 Kr];exact(((aB _ ((aB _ ((aB _ (aC _)).trans (ZP _ _ _))).trans (ZP _ _ _))).trans (ZP _ _ _)).trans (aB _ (((aB _ ((aB _ (aC _)).trans (ZP _ _ _))).trans (ZP _ _ _)).trans (aB _ (aC _))))).symm) (fun (γ:Nat×AN×Nat×AN) M' w hM=>Jc (bytes:=184) 102 0 ([x]) Kr rfl rfl followed.one rfl (fun w hM=>(Rd.lit hM 1 _ rfl Kr Kr Kr)) rfl (by (try have kx_:=Xw kb_.2 (show k_2<_ by omega));exact sa) w hM) (fun (γ:Nat×AN×Nat×AN)=>Kr) (fun (γ:Nat×AN×Nat×AN) g=>Kr) Kr (fun (γ:Nat×AN×Nat×AN) g=>Kr) (Steps.run (i:=9) 11 [0,0] Mr16_ Kr Kr (fun S (γ:Nat×AN×Nat×AN) w hM=>by rw[mS4 rfl rfl rfl rfl] at hM;exact hM.sub (Zh (Zh (Zh (Zh (aA _)))))) Kr (fun (γ:Nat×AN×Nat×AN)=>{}) (XH Kr)))))))
       ·rintro⟨b3,⟨A_2,c_2⟩,b4,⟨A_3,c_3⟩⟩
        exact Yp [Bk b3 (Track.c r3.1.Track) 70,Ow A_2 c_2 70 13 ((qi++([r3.1.Track])).map Track.c),Bk b4 (followed.c x) 111,Ow A_3 c_3 111 23 ((all++([x])).map followed.c),Bk b2 (Za.c r3.1) 107,Bk b1 (followed.c x) 111,Ow A c 46 6 (r2.1.map Zm.c),Bk b_t (Zi.k (⟨t.rules,t.all,t.next,time⟩:Zi) A_t_all qc) 104,Ow A_t_all qc 111 23 (t.all.map followed.c),Ow A_l c_l 46 6 (l.map Zm.c)] (fun _ hM=>hM) (Yr (Z4 (TC.region (Zc 2 [] [(75,.i (w64 ((k:Int)+1)))] {} (Z2 rfl (Yp [Ow A_3 c_3 111 23 ((all++([x])).map followed.c),Ow A_2 c_2 70 13 ((qi++([r3.1.Track])).map Track.c),Ow A c 46 6 (r2.1.map Zm.c),Bk b_t (Zi.k (⟨t.rules,t.all,t.next,time⟩:Zi) A_t_all qc) 104,Ow A_t_all qc 111 23 (t.all.map followed.c),Ow A_l c_l 46 6 (l.map Zm.c),Bk b3 (Track.c r3.1.Track) 70,Bk b4 (followed.c x) 111,Bk b2 (Za.c r3.1) 107,Bk b1 (followed.c x) 111] (fun _ hM=>hM.perm (px [3,1,6,7,8,9,0,2,4,5])) (TE.rw 75 (.i (w64 ((k:Int)+1))) (.i ((k+1:Nat):Int)) Kr (ZT k (by (try have kx_:=Xw kb_.2 (show k_2<_ by omega));omega)) (Z7 (x:=(k,qi,all,A_tracks,qp,A_all,xv)) (k+1,(qi++([r3.1.Track])),(all++([x])),A_2,c_2,A_3,c_3) ⟨by omega,hI.trans (by subst hr1 hr2 hr3;rw[hd];exact Zk h4 (rfl)),(by (try have kx_:=Xw kb_.2 (show k_2<_ by omega));exact sl),(by (try have kx_:=Xw kb_.2 (show k_2<_ by omega));exact sl)⟩ (mN hlt) Kr (sb 63)))))))))
      ·have yl:=(Yh h4)
       exact TC.skip (Yr (Z4 (TC.region (Zc 2 [] [(75,.i (w64 ((k:Int)+1)))] {} (Z2 rfl (TE.rw 75 (.i (w64 ((k:Int)+1))) (.i ((k+1:Nat):Int)) Kr (ZT k (by (try have kx_:=Xw kb_.2 (show k_2<_ by omega));omega)) (Z7 (x:=(k,qi,all,A_tracks,qp,A_all,xv)) (k+1,qi,all,A_tracks,qp,A_all,xv) ⟨by omega,hI.trans (by subst hr1 hr2 hr3;rw[hd];exact Zd h4 (rfl)),(by (try have kx_:=Xw kb_.2 (show k_2<_ by omega));exact sl),(by (try have kx_:=Xw kb_.2 (show k_2<_ by omega));exact sl)⟩ (mN hlt) Kr (sb 252))))))))
    ·have hd:=QE h3
     refine TC.exit (Yc (Yc (Z1 ?_)))
     exact TE.cut (qi,all,A_tracks,qp,A_all,xv) (⟨hI.trans (by subst hr1 hr2;rw[hd];exact rfl),(by (try have kx_:=Xw kb_.2 (show k_2<_ by omega));exact sl),(by (try have kx_:=Xw kb_.2 (show k_2<_ by omega));exact sl)⟩) Kr (sb 63)
   ·rintro⟨zw,q7,A_tracks_2,xr,A_all_2,q8⟩ ⟨va,sq,ch⟩
    refine YZ (Zc 3 [] [(104,.slice A_tracks_2 zw.length xr),(105,.slice A r2.1.length c),(106,.i qd)] {} (UR (Γ:=(AN×List (Sl Int))) 107 (XK zw r2.1 qd) (fun r4 g=>.tuple #[.slice g.1.1 r4.1.length g.1.2,.i r4.2]) (fun r4 g=>[.inr (XG (r4.1=g.2.map Sl.l)),Ow g.1.1 g.1.2 22 1 (g.2.map Sl.c),.inr (Bag 3 1 ic g.2)]) (fun w hM=>NF A_tracks_2 xr zw A c r2.1 qd w (hM.rd_at 1 rfl) (hM.le_at 1 rfl) (hM.rd_at 2 rfl) (hM.le_at 2 rfl)) {} (fun r4 hr4=>?_)))
    rintro⟨⟨A_4,c_4⟩,o⟩
    refine Y2 (fun w hM=>hM.fact_at 0 rfl) (fun uy=>YK [Ow A_4 c_4 22 1 (o.map Sl.c),.inr (Bag 3 1 ic o),Ow A_all_2 q8 111 23 (q7.map followed.c),Ow A_tracks_2 xr 70 13 (zw.map Track.c),Ow A c 46 6 (r2.1.map Zm.c),Bk b_t (Zi.k (⟨t.rules,t.all,t.next,time⟩:Zi) A_t_all qc) 104,Ow A_t_all qc 111 23 (t.all.map followed.c),Ow A_l c_l 46 6 (l.map Zm.c)] (.cons _ (aA _)) (Y2 (fun w hM=>hM.short_at 0 rfl) (fun ru=>?_)))
    have rv:=UY uy
    refine Zc 9 [] [(18,.slice A_4 r4.1.length c_4)] {} (Zv (Zc 1 [] [(111,.slice A_4 r4.1.length c_4)] {} (UR (Γ:=AN) 112 (XF r4.1 2147483648) (fun r5 g=>.tuple #[.slice g.1 r5.1.length g.2,.i r5.2.1,.i r5.2.2]) (fun r5 g=>[Ow g.1 g.2 3 1 (r5.1.map ic)]) (fun w hM=>Fa A_4 c_4 r4.1 o 2147483648 w (hM.rd_at 0 rfl) (Ip uy (hM.le_at 0 rfl)) (hM.bag_at 1 rfl) uy) {} (fun r5 hr5=>?_))))
    have kb_:=TW h1 hr1 hr2 hJ (hR.symm.trans va) hr4 hr5 hn;have ox:=kb_.1
    rintro⟨A_5,c_5⟩
    refine Y2 (fun w hM=>hM.short_at 0 rfl) (fun i7=>Zc 9 [] [(20,.slice A_5 r5.1.length c_5)] {} (Zv (Zc 2 [] [(117,.i (r2.1.length:Int))] {} (TL.on (Γ:=AN) (sV (Instr.makeSlice 119 (.i (r2.1.length:Int)) (.i (r2.1.length:Int)))) 118 (fun g=>.slice g.1 (List.replicate ((r2.1.length:Int).toNat) false).length g.2) (fun g=>Ow g.1 g.2 4 1 ((List.replicate ((r2.1.length:Int).toNat) false).map bc)) (V0 (P:=Tryz.prog) (c:=bc) (t:=119) (e:=4) (sz:=1) (bytes:=1) false .i64 .i64 ((r2.1.length:Int).toNat) Kr Kr (by (try have kx_:=Xw kb_.2 (show k_2<_ by omega));exact sd) (by (try have kx_:=Xw kb_.2 (show k_2<_ by omega));exact sd)) {} ?_))))
    rintro⟨A_6,c_6⟩
    refine Zc 4 [] [(23,.slice A_6 ((List.replicate ((r2.1.length:Int).toNat) false).length) c_6)] {} (Zv (Zc 3 [] [(121,.pt b_t 6)] {} (Ym 7 (Bk b_t (Zi.k (⟨t.rules,[],t.next,time⟩:Zi) none 0) 104) (fun _=>{}) (Zz (Ze (Zc 3 [] [(122,.slice A_all_2 q7.length q8),(123,.i (q7.length:Int)),(124,.i 0)] {} (Zb rfl (QS [Ow none 0 111 23 (([]:List followed).map followed.c),Ow A_6 c_6 4 1 ((List.replicate ((r2.1.length:Int).toNat) false).map bc),Ow A_5 c_5 3 1 (r5.1.map ic),Ow A_4 c_4 22 1 (o.map Sl.c),.inr (Bag 3 1 ic o),Ow A_all_2 q8 111 23 (q7.map followed.c),Ow A_tracks_2 xr 70 13 (zw.map Track.c),Ow A c 46 6 (r2.1.map Zm.c),Bk b_t (Zi.k (⟨t.rules,[],t.next,time⟩:Zi) none 0) 104,Ow A_t_all qc 111 23 (t.all.map followed.c),Ow A_l c_l 46 6 (l.map Zm.c)] (fun _ hM=>hM.emptyrow none 111 23) (QS [Ow none 0 111 23 (([]:List followed).map followed.c),Ow A_6 c_6 4 1 ((List.replicate ((r2.1.length:Int).toNat) false).map bc),Ow A_5 c_5 3 1 (r5.1.map ic),Ow A_4 c_4 22 1 (o.map Sl.c),.inr (Bag 3 1 ic o),Ow A_all_2 q8 111 23 (q7.map followed.c),Ow A_tracks_2 xr 70 13 (zw.map Track.c),Ow A c 46 6 (r2.1.map Zm.c),Bk b_t (Zi.k (⟨t.rules,([]:List followed),t.next,time⟩:Zi) none 0) 104,Ow A_t_all qc 111 23 (t.all.map followed.c),Ow A_l c_l 46 6 (l.map Zm.c)] (fun _ hM=>hM) ?_)))))))))
    obtain⟨R9,x9⟩:∃ R,R=Yf t r2 r5 q7 0 (List.replicate ((r2.1.length:Int).toNat) false) ([]:List followed):=⟨_,rfl⟩
    refine TC.cut (S:=(List Bool)×(List followed)×(Option Addr)×Nat) (fun (zb,qt,A_xs__2,qu)=>[(0,.p0 b_t),(2,.i time),(9,.slice A r2.1.length c),(23,.slice A_6 zb.length c_6)]) (fun (zb,qt,A_xs__2,qu)=>[Ow A_xs__2 qu 111 23 (qt.map followed.c),Ow A_6 c_6 4 1 (zb.map bc),Ow A c 46 6 (r2.1.map Zm.c),Bk b_t (Zi.k (⟨t.rules,qt,t.next,time⟩:Zi) A_xs__2 qu) 104,Ow A_l c_l 46 6 (l.map Zm.c)]) (fun (zb,qt,A_xs__2,qu)=>R9=(zb,qt)∧zb.length=((r2.1.length:Int).toNat)∧qt.length≤q7.length) ?_ ?_
    ·refine TC.block (XB (X:=Nat×(List Bool)×(List followed)×(Option Addr)×Nat) (fun (k_2,used,xs_,A_xs_,qh)=>[(0,.p0 b_t),(2,.i time),(9,.slice A r2.1.length c),(20,.slice A_5 r5.1.length c_5),(23,.slice A_6 used.length c_6),(122,.slice A_all_2 q7.length q8),(123,.i (q7.length:Int)),(124,.i (k_2:Int))]) (fun (k_2,used,xs_,A_xs_,qh)=>[Ow A_xs_ qh 111 23 (xs_.map followed.c),Ow A_6 c_6 4 1 (used.map bc),Ow A_5 c_5 3 1 (r5.1.map ic),Ow A_all_2 q8 111 23 (q7.map followed.c),Ow A c 46 6 (r2.1.map Zm.c),Bk b_t (Zi.k (⟨t.rules,xs_,t.next,time⟩:Zi) A_xs_ qh) 104,Ow A_l c_l 46 6 (l.map Zm.c)]) (fun (k_2,used,xs_,A_xs_,qh)=>q7.length-k_2) (fun (k_2,used,xs_,A_xs_,qh)=>k_2≤q7.length∧R9=Yf t r2 r5 (q7.drop k_2) k_2 used xs_∧used.length=((r2.1.length:Int).toNat)∧xs_.length≤k_2) ?_ (0,(List.replicate ((r2.1.length:Int).toNat) false),([]:List followed),none,0) ⟨aN _,x9,sz,sz⟩ Kr (sb 1447))
     rintro⟨k_2,used,xs_,A_xs_,qh⟩ ⟨y9,xg,gh,p6⟩
     refine Ze (Zc 1 [] [(125,.b (decide ((k_2:Int)<(q7.length:Int))))] {} (Zz (TC.cond (decide ((k_2:Int)<(q7.length:Int))) rfl Kr (fun h5=>?_) (fun h5=>?_))))
     ·have zp:=ltN h5
      obtain⟨x_2,xw⟩:=elN zp
      have zr:=drop_at xw
      refine Yg (TC.seq (TC.block (Ze (Zc 1 [] [(126,.i (k_2:Int))] {} (TL.v (sV (Instr.indexAt 102 (.slice A_all_2 q7.length q8) (.i (k_2:Int)))) 127 (.pointer (some (Ix A_all_2 (k_2*23)))) (fun w hM=>Zy (hM.rd_at 3 rfl) (by simp) Kr (by (try have kx_:=Xw kb_.2 (show k_2<_ by omega));exact sd) (by (try have kx_:=Xw kb_.2 (show k_2<_ by omega));exact sd)) {} (TL.v (sV (Instr.loadAt 111 (.pointer (some (Ix A_all_2 (k_2*23)))))) 128 (followed.v x_2) (fun w hM=>Yd (n:=23) (off:=0) (i:=k_2) (followed.v x_2) (hM.rd_at 3 rfl) (ZR xw) Kr Kr Kr) {} (ZH 25 (fun b5=>.p0 b5) (fun b5=>Bk b5 (followed.c followed.zero) 111) (fun b5=>{}) (fun b5=>Zc 5 [] [(24,.i (k_2:Int))] {} (Ym 0 (Bk b5 (followed.c x_2) 111) (fun _=>{}) (Zv (Zc 1 [] [(129,.pt b5 22)] {} (Ym 0 (Bk b5 (followed.c (⟨x_2.f,x_2.history,false⟩:followed)) 111) (fun _=>{}) (Zz (Ze (Zc 2 [] [(130,.slice A_5 r5.1.length c_5),(131,.i (k_2:Int))] {} (TL.v (sV (Instr.indexAt 22 (.slice A_5 r5.1.length c_5) (.i (k_2:Int)))) 132 (.pointer (some (Ix A_5 (k_2*1)))) (fun w hM=>Zy (hM.rd_at 3 rfl) (by simp) Kr (by (try have kx_:=Xw kb_.2 (show k_2<_ by omega));exact sd) (by (try have kx_:=Xw kb_.2 (show k_2<_ by omega));exact sd)) {} (TL.v (sV (Instr.loadAt 3 (.pointer (some (Ix A_5 (k_2*1)))))) 133 (.i (r5.1[k_2]?.getD 0)) (fun w hM=>Z3 (off:=0) (i:=k_2) (.i (r5.1[k_2]?.getD 0)) (hM.rd_at 3 rfl) (ZR (getD_at _ _ 0 (by (try have kx_:=Xw kb_.2 (show k_2<_ by omega));exact sd))) Kr Kr) {} (Zc 5 [] [(26,.i (r5.1[k_2]?.getD 0))] {} (Zv (Zc 2 [] [(135,.b (decide ((r5.1[k_2]?.getD 0)≥0)))] {} (Zb rfl ?_)))))))))))))))))))))
      refine TC.cut (S:=(List Bool)×followed) (fun (zh,x_3)=>[(0,.p0 b_t),(2,.i time),(9,.slice A r2.1.length c),(20,.slice A_5 r5.1.length c_5),(23,.slice A_6 zh.length c_6),(25,.p0 b5),(122,.slice A_all_2 q7.length q8),(123,.i (q7.length:Int)),(124,.i (k_2:Int))]) (fun (zh,x_3)=>[Bk b5 (followed.c x_3) 111,Ow A_xs_ qh 111 23 (xs_.map followed.c),Ow A_6 c_6 4 1 (zh.map bc),Ow A_5 c_5 3 1 (r5.1.map ic),Ow A_all_2 q8 111 23 (q7.map followed.c),Ow A c 46 6 (r2.1.map Zm.c),Bk b_t (Zi.k (⟨t.rules,xs_,t.next,time⟩:Zi) A_xs_ qh) 104,Ow A_l c_l 46 6 (l.map Zm.c)]) (fun (zh,x_3)=>(cond (decide ((r5.1[k_2]?.getD 0)≥0)) (
       let r6:=Y0 x_2.f (r2.1[(r5.1[k_2]?.getD 0).toNat]?.getD Zm.zero) t.rules.Accel t.rules.Place t.rules.Speed
       cond (r6.2==0) (
        let r7:=JG r6.1
        ((used.set ((r5.1[k_2]?.getD 0).toNat) true),(⟨r7.1,x_2.history,true⟩:followed))) (
        (used,(⟨x_2.f,x_2.history,false⟩:followed)))) (
       (used,(⟨x_2.f,x_2.history,false⟩:followed))))=(zh,x_3)∧(zh.length=used.length)) ?_ ?_
      ·refine TC.cond (decide ((r5.1[k_2]?.getD 0)≥0)) rfl Kr (fun h6=>?_) (fun h6=>?_)
       ·have yv:=(Ys h6)
        refine TC.seq ?_
        obtain⟨r6,hr6⟩:∃ r,Y0 x_2.f (r2.1[(r5.1[k_2]?.getD 0).toNat]?.getD Zm.zero) t.rules.Accel t.rules.Place t.rules.Speed=r:=⟨_,rfl⟩
        let Mr28_:Mem:=[Bk b5 (followed.c (⟨x_2.f,x_2.history,false⟩:followed)) 111,Ow A_xs_ qh 111 23 (xs_.map followed.c),Ow A_6 c_6 4 1 (used.map bc),Ow A_5 c_5 3 1 (r5.1.map ic),Ow A_all_2 q8 111 23 (q7.map followed.c),Ow A c 46 6 (r2.1.map Zm.c),Bk b_t (Zi.k (⟨t.rules,xs_,t.next,time⟩:Zi) A_xs_ qh) 104,Ow A_l c_l 46 6 (l.map Zm.c)]
        refine Jt (G:=Nat) (base:=[(0,.p0 b_t),(2,.i time),(9,.slice A r2.1.length c),(20,.slice A_5 r5.1.length c_5),(23,.slice A_6 used.length c_6),(25,.p0 b5),(26,.i (r5.1[k_2]?.getD 0)),(122,.slice A_all_2 q7.length q8),(123,.i (q7.length:Int)),(124,.i (k_2:Int))]) (vals:=fun γ=>[.p0 b5,Za.v x_2.f,.slice A r2.1.length c,.i (r5.1[k_2]?.getD 0),.pointer (some (Ix A ((r5.1[k_2]?.getD 0).toNat*6))),Zm.v (r2.1[(r5.1[k_2]?.getD 0).toNat]?.getD Zm.zero),.p0 b_t,.p0 b_t,.p0 b_t,.pt b_t 3,.i t.rules.Accel,.p0 b_t,.p0 b_t,.p0 b_t,.pt b_t 4,.i t.rules.Place,.p0 b_t,.p0 b_t,.p0 b_t,.pt b_t 5,.i t.rules.Speed,.tuple #[Za.v r6.1,.i r6.2],.tuple #[Za.v r6.1,.i r6.2],Za.v r6.1,.i r6.2,.p0 γ,undef,.i r6.2]) (writes:=[25,26]) (mem:=fun bs γ=>match bs with | [x25_,x26_]=>(bif x26_ then [Bk γ (Za.c r6.1) 107] else bif x25_ then [Bk γ (Za.c Za.zero) 107] else [])++(Mr28_)|_=>[]) (0) (fun γ=>[(0,.p0 b_t),(2,.i time),(9,.slice A r2.1.length c),(20,.slice A_5 r5.1.length c_5),(23,.slice A_6 used.length c_6),(25,.p0 b5),(26,.i (r5.1[k_2]?.getD 0)),(27,.p0 γ),(28,.i r6.2),(122,.slice A_all_2 q7.length q8),(123,.i (q7.length:Int)),(124,.i (k_2:Int))]) Kr Kr Kr Kr Kr (fun γ=>Kr) (fun _ hM=>hM) (fun γ=>Kr) ?_ ?_
        ·skip
         exact Steps.run (i:=0) 4 [0,0,0,0] Mr28_ Kr Kr (fun S (γ:Nat) w hM=>by rw[mS2 rfl rfl] at hM;exact hM.sub (Zh (aA _))) Kr (fun (γ:Nat)=>{}) (Xy (i:=4) (fun (γ:Nat)=>sV (Instr.indexAt 52 (.slice A r2.1.length c) (.i (r5.1[k_2]?.getD 0)))) (some 141) (fun (γ:Nat)=>.pointer (some (Ix A ((r5.1[k_2]?.getD 0).toNat*6)))) (fun _=>Mr28_) Kr (fun S (γ:Nat) w _ hM=>by rw[mS2 rfl rfl] at hM;exact hM.sub (Zh (aA _))) (fun (γ:Nat) w hM=>Zy (hM.rd_at 5 rfl) (by simp) Kr (by (try have kx_:=Xw kb_.2 (show k_2<_ by omega));exact sd) (by (try have kx_:=Xw kb_.2 (show k_2<_ by omega));exact sd)) (fun (γ:Nat)=>Kr) (fun (γ:Nat)=>Kr) (Xy (i:=5) (fun (γ:Nat)=>sV (Instr.loadAt 46 (.pointer (some (Ix A ((r5.1[k_2]?.getD 0).toNat*6)))))) (some 142) (fun (γ:Nat)=>Zm.v (r2.1[(r5.1[k_2]?.getD 0).toNat]?.getD Zm.zero)) (fun _=>Mr28_) Kr (fun S (γ:Nat) w _ hM=>by rw[mS2 rfl rfl] at hM;exact hM.sub (Zh (aA _))) (fun (γ:Nat) w hM=>Yd (n:=6) (off:=0) (i:=(r5.1[k_2]?.getD 0).toNat) (Zm.v (r2.1[(r5.1[k_2]?.getD 0).toNat]?.getD Zm.zero)) (hM.rd_at 5 rfl) (ZR (getD_at _ _ Zm.zero (by (try have kx_:=Xw kb_.2 (show k_2<_ by omega));exact sd))) Kr Kr Kr) (fun (γ:Nat)=>Kr) (fun (γ:Nat)=>Kr) (Steps.run (i:=6) 21 [0,0,0,0,6,0,0,0,0,6,0,0,0,0,6] Mr28_ Kr Kr (fun S (γ:Nat) w hM=>by rw[mS2 rfl rfl] at hM;exact hM.sub (Zh (aA _))) Kr (fun (γ:Nat)=>{}) (Steps.call (i:=21) 48 (fun (γ:Nat)=>#[Za.v x_2.f,Zm.v (r2.1[(r5.1[k_2]?.getD 0).toNat]?.getD Zm.zero),.i t.rules.Accel,.i t.rules.Place,.i t.rules.Speed]) (some 158) (fun (γ:Nat)=>.tuple #[Za.v r6.1,.i r6.2]) (fun (γ:Nat)=>[Bk b5 (followed.c (⟨x_2.f,x_2.history,false⟩:followed)) 111,Ow A_xs_ qh 111 23 (xs_.map followed.c),Ow A_6 c_6 4 1 (used.map bc),Ow A_5 c_5 3 1 (r5.1.map ic),Ow A_all_2 q8 111 23 (q7.map followed.c),Ow A c 46 6 (r2.1.map Zm.c),Bk b_t (Zi.k (⟨t.rules,xs_,t.next,time⟩:Zi) A_xs_ qh) 104,Ow A_l c_l 46 6 (l.map Zm.c)]) Kr (fun S (γ:Nat) w _ hM=>by rw[mS2 rfl rfl] at hM;exact hM.sub (Zh (aA _))) (fun (γ:Nat) w _=>by have h:=Bf x_2.f (r2.1[(r5.1[k_2]?.getD 0).toNat]?.getD Zm.zero) t.rules.Accel t.rules.Place t.rules.Speed w;rw[hr6] at h;exact h) (fun (γ:Nat)=>Kr) (fun (γ:Nat)=>Kr) (Steps.run (i:=22) 25 [0,0,0] Mr28_ Kr Kr (fun S (γ:Nat) w hM=>by rw[mS2 rfl rfl] at hM;exact hM.sub (Zh (aA _))) Kr (fun (γ:Nat)=>{}) (Steps.op (i:=25) (Γ:=Nat) (fun g (γ:Nat)=>g) (fun _=>[]) (fun b (γ:Nat)=>[Bk b (Za.c Za.zero) 107]) (fun S (γ:Nat)=>Mr28_) [25,26,27] (fun (γ:Nat)=>sV (Instr.alloc 107 true (.tuple #[]))) (some 27) (fun b (γ:Nat)=>.p0 b) (fun S (γ:Nat) hj hd hl=>by rw[mS2 hj (hl 26 Kr)];exact aC _) (fun S (γ:Nat) g hl=>by rw[mS2 (S:=upS S 25) (a0:=25) (a1:=26) rfl (hl 26 Kr)];exact(aC _).symm) (fun (γ:Nat) M' w hM=>Jd (v:=fun b=>.p0 b) (fun b M=>Kr) M' w hM) (fun (γ:Nat)=>Kr) (fun (γ:Nat) g=>Kr) Kr (fun (γ:Nat) g=>Kr) (Steps.put (i:=26) (fun (γ:Nat)=>[Bk γ (Za.c Za.zero) 107]) (fun (γ:Nat)=>[Bk γ (Za.c r6.1) 107]) (fun S (γ:Nat)=>Mr28_) (fun (γ:Nat)=>sU (Instr.storeAt 107 (.p0 γ) (Za.v r6.1))) none (fun S (γ:Nat) hj hd hl=>by rw[mS2 (hd 25 Kr) hj];exact aC _) (fun S (γ:Nat) _=>(aC _).symm) (fun (γ:Nat) M' w hM=>JJ (fun b M=>Kr) (fun b M=>Kr) M' w hM) (fun (γ:Nat)=>Kr) (fun (γ:Nat)=>Kr) (Steps.run (i:=27) 28 [0] Mr28_ Kr Kr (fun S (γ:Nat) w hM=>by rw[mS2 rfl rfl] at hM;exact hM.sub (Zh (aA _))) Kr (fun (γ:Nat)=>{}) (XH Kr)))))))))
        ·rintro b6
         refine Yp [Bk b6 (Za.c r6.1) 107,Bk b5 (followed.c (⟨x_2.f,x_2.history,false⟩:followed)) 111,Ow A_xs_ qh 111 23 (xs_.map followed.c),Ow A_6 c_6 4 1 (used.map bc),Ow A_5 c_5 3 1 (r5.1.map ic),Ow A_all_2 q8 111 23 (q7.map followed.c),Ow A c 46 6 (r2.1.map Zm.c),Bk b_t (Zi.k (⟨t.rules,xs_,t.next,time⟩:Zi) A_xs_ qh) 104,Ow A_l c_l 46 6 (l.map Zm.c)] (fun _ hM=>hM) (YZ (Zc 2 [] [(162,.b (r6.2==0))] {} (Zb rfl (TC.cond (r6.2==0) rfl Kr (fun h7=>?_) (fun h7=>?_)))))
         ·have ym:=(Xf h7)
          exact Ze (Zc 1 [0] [(164,Za.v r6.1)] {} (TL.c 165 (JG r6.1) (fun r7=>.tuple #[Za.v r7.1,.i r7.2]) (fun w _=>Lo r6.1 w) {} (fun r7 hr7=>Zc 5 [] [(166,Za.v r7.1)] {} (Ym 0 (Bk b6 (Za.c r7.1) 107) (fun _=>{}) (Zb rfl (TC.region (Zc 4 [0] [(168,.slice A_6 used.length c_6),(169,.i (r5.1[k_2]?.getD 0)),(170,Za.v r7.1),(171,.p0 b5)] {} (Ym 1 (Bk b5 (followed.c (⟨r7.1,x_2.history,false⟩:followed)) 111) (fun _=>{}) (Zc 6 [] [(172,.pt b5 22)] {} (Ym 1 (Bk b5 (followed.c (⟨r7.1,x_2.history,true⟩:followed)) 111) (fun _=>{}) (TL.v (sV (Instr.indexAt 119 (.slice A_6 used.length c_6) (.i (r5.1[k_2]?.getD 0)))) 173 (.pointer (some (Ix A_6 ((r5.1[k_2]?.getD 0).toNat*1)))) (fun w hM=>Zy (hM.rd_at 3 rfl) (by simp) Kr (by (try have kx_:=Xw kb_.2 (show k_2<_ by omega));exact sd) (by (try have kx_:=Xw kb_.2 (show k_2<_ by omega));exact sd)) {} (Uk (Γ:=Unit) (sU (Instr.storeAt 4 (.pointer (some ((Ix A_6 ((r5.1[k_2]?.getD 0).toNat*1)).add 0))) (.b true))) 3 (Ow A_6 c_6 4 1 ((used.set ((r5.1[k_2]?.getD 0).toNat) true).map bc)) (X5 (n:=1) (off:=0) (.b true) 3 ((used.set ((r5.1[k_2]?.getD 0).toNat) true).map bc) rfl (ZR (getD_at _ _ false (by (try have kx_:=Xw kb_.2 (show k_2<_ by omega));exact sd))) Kr Kr Kr Kr (Qn Kr)) Kr (TL.rw 23 (.slice A_6 used.length c_6) (.slice A_6 ((used.set ((r5.1[k_2]?.getD 0).toNat) true).length) c_6) Kr (by simp only[aQ]) (Z2 rfl (TE.cut ((used.set ((r5.1[k_2]?.getD 0).toNat) true),(⟨r7.1,x_2.history,true⟩:followed)) ⟨(by subst hr1 hr2 hr4 hr5 hr6 hr7;exact Zk h6 (Zk h7 (rfl))),(by simp)⟩ Kr (sb 510))))))))))))))))
         ·have ym:=(Yh h7)
          exact TC.skip (TE.cut (used,(⟨x_2.f,x_2.history,false⟩:followed)) ⟨(by subst hr1 hr2 hr4 hr5 hr6;exact Zk h6 (Zd h7 (rfl))),(by simp)⟩ Kr (sb 510))
       ·have yv:=(Zt h6)
        exact TC.skip (TE.cut (used,(⟨x_2.f,x_2.history,false⟩:followed)) ⟨(by subst hr1 hr2 hr4 hr5;exact Zd h6 (rfl)),(by simp)⟩ Kr (sb 255))
      ·rintro⟨zh,x_3⟩ ⟨ux,ry⟩
       refine Z4 (TC.seq (Ze (Zc 3 [0] [(176,.b (!x_3.hit))] {} (Zb rfl (TC.cond (!x_3.hit) rfl Kr (fun h8=>?_) (fun h8=>?_))))))
       ·refine TC.seq ?_
        obtain⟨r8,hr8⟩:∃ r,Xv x_3.f t.rules.Misses=r:=⟨_,rfl⟩
        let Mr33_:Mem:=[Bk b5 (followed.c x_3) 111,Ow A_xs_ qh 111 23 (xs_.map followed.c),Ow A_6 c_6 4 1 (zh.map bc),Ow A_5 c_5 3 1 (r5.1.map ic),Ow A_all_2 q8 111 23 (q7.map followed.c),Ow A c 46 6 (r2.1.map Zm.c),Bk b_t (Zi.k (⟨t.rules,xs_,t.next,time⟩:Zi) A_xs_ qh) 104,Ow A_l c_l 46 6 (l.map Zm.c)]
        refine Jt (G:=Nat) (base:=[(0,.p0 b_t),(2,.i time),(9,.slice A r2.1.length c),(20,.slice A_5 r5.1.length c_5),(23,.slice A_6 zh.length c_6),(25,.p0 b5),(122,.slice A_all_2 q7.length q8),(123,.i (q7.length:Int)),(124,.i (k_2:Int))]) (vals:=fun γ=>[.p0 b5,Za.v x_3.f,.p0 b_t,.p0 b_t,.p0 b_t,.pt b_t 2,.i t.rules.Misses,.tuple #[Za.v r8.1,.b r8.2.1,.i r8.2.2],.tuple #[Za.v r8.1,.b r8.2.1,.i r8.2.2],Za.v r8.1,.b r8.2.1,.i r8.2.2,.p0 γ,undef,.b r8.2.1,.i r8.2.2]) (writes:=[12,13]) (mem:=fun bs γ=>match bs with | [uh,x13_]=>(bif x13_ then [Bk γ (Za.c r8.1) 107] else bif uh then [Bk γ (Za.c Za.zero) 107] else [])++(Mr33_)|_=>[]) (0) (fun γ=>[(0,.p0 b_t),(2,.i time),(9,.slice A r2.1.length c),(20,.slice A_5 r5.1.length c_5),(23,.slice A_6 zh.length c_6),(25,.p0 b5),(29,.p0 γ),(30,.b r8.2.1),(31,.i r8.2.2),(122,.slice A_all_2 q7.length q8),(123,.i (q7.length:Int)),(124,.i (k_2:Int))]) Kr Kr Kr Kr Kr (fun γ=>Kr) (fun _ hM=>hM) (fun γ=>Kr) ?_ ?_
        ·skip
         exact Steps.run (i:=0) 7 [0,0,0,0,0,0,6] Mr33_ Kr Kr (fun S (γ:Nat) w hM=>by rw[mS2 rfl rfl] at hM;exact hM.sub (Zh (aA _))) Kr (fun (γ:Nat)=>{}) (Steps.call (i:=7) 50 (fun (γ:Nat)=>#[Za.v x_3.f,.i t.rules.Misses]) (some 185) (fun (γ:Nat)=>.tuple #[Za.v r8.1,.b r8.2.1,.i r8.2.2]) (fun (γ:Nat)=>[Bk b5 (followed.c x_3) 111,Ow A_xs_ qh 111 23 (xs_.map followed.c),Ow A_6 c_6 4 1 (zh.map bc),Ow A_5 c_5 3 1 (r5.1.map ic),Ow A_all_2 q8 111 23 (q7.map followed.c),Ow A c 46 6 (r2.1.map Zm.c),Bk b_t (Zi.k (⟨t.rules,xs_,t.next,time⟩:Zi) A_xs_ qh) 104,Ow A_l c_l 46 6 (l.map Zm.c)]) Kr (fun S (γ:Nat) w _ hM=>by rw[mS2 rfl rfl] at hM;exact hM.sub (Zh (aA _))) (fun (γ:Nat) w _=>by have h:=NA x_3.f t.rules.Misses w;rw[hr8] at h;exact h) (fun (γ:Nat)=>Kr) (fun (γ:Nat)=>Kr) (Steps.run (i:=8) 12 [0,0,0,0] Mr33_ Kr Kr (fun S (γ:Nat) w hM=>by rw[mS2 rfl rfl] at hM;exact hM.sub (Zh (aA _))) Kr (fun (γ:Nat)=>{}) (Steps.op (i:=12) (Γ:=Nat) (fun g (γ:Nat)=>g) (fun _=>[]) (fun b (γ:Nat)=>[Bk b (Za.c Za.zero) 107]) (fun S (γ:Nat)=>Mr33_) [12,13,14,15] (fun (γ:Nat)=>sV (Instr.alloc 107 true (.tuple #[]))) (some 29) (fun b (γ:Nat)=>.p0 b) (fun S (γ:Nat) hj hd hl=>by rw[mS2 hj (hl 13 Kr)];exact aC _) (fun S (γ:Nat) g hl=>by rw[mS2 (S:=upS S 12) (a0:=12) (a1:=13) rfl (hl 13 Kr)];exact(aC _).symm) (fun (γ:Nat) M' w hM=>Jd (v:=fun b=>.p0 b) (fun b M=>Kr) M' w hM) (fun (γ:Nat)=>Kr) (fun (γ:Nat) g=>Kr) Kr (fun (γ:Nat) g=>Kr) (Steps.put (i:=13) (fun (γ:Nat)=>[Bk γ (Za.c Za.zero) 107]) (fun (γ:Nat)=>[Bk γ (Za.c r8.1) 107]) (fun S (γ:Nat)=>Mr33_) (fun (γ:Nat)=>sU (Instr.storeAt 107 (.p0 γ) (Za.v r8.1))) none (fun S (γ:Nat) hj hd hl=>by rw[mS2 (hd 12 Kr) hj];exact aC _) (fun S (γ:Nat) _=>(aC _).symm) (fun (γ:Nat) M' w hM=>JJ (fun b M=>Kr) (fun b M=>Kr) M' w hM) (fun (γ:Nat)=>Kr) (fun (γ:Nat)=>Kr) (Steps.run (i:=14) 16 [0,0] Mr33_ Kr Kr (fun S (γ:Nat) w hM=>by rw[mS2 rfl rfl] at hM;exact hM.sub (Zh (aA _))) Kr (fun (γ:Nat)=>{}) (XH Kr))))))
        ·rintro b7
         refine Yp [Bk b7 (Za.c r8.1) 107,Bk b5 (followed.c x_3) 111,Ow A_xs_ qh 111 23 (xs_.map followed.c),Ow A_6 c_6 4 1 (zh.map bc),Ow A_5 c_5 3 1 (r5.1.map ic),Ow A_all_2 q8 111 23 (q7.map followed.c),Ow A c 46 6 (r2.1.map Zm.c),Bk b_t (Zi.k (⟨t.rules,xs_,t.next,time⟩:Zi) A_xs_ qh) 104,Ow A_l c_l 46 6 (l.map Zm.c)] (fun _ hM=>hM) (Z4 (TC.seq (Ze (Zc 3 [] [(191,.b (r8.2.2 != 0))] {} (XT 191 (r8.2.2 != 0) 5 [] [] (fun β=>[(193,.b (β||r8.2.1))]) Kr {} {} (Zb rfl (TC.cond ((r8.2.2 != 0)||r8.2.1) rfl Kr (fun h9=>?_) (fun h9=>?_))))))))
         ·refine TC.exit (Yc (Yc (Z1 ?_)))
          exact Z4 (TC.region (Zc 2 [] [(124,.i (w64 ((k_2:Int)+1)))] {} (Z2 rfl (TE.rw 124 (.i (w64 ((k_2:Int)+1))) (.i ((k_2+1:Nat):Int)) Kr (ZT k_2 (by (try have kx_:=Xw kb_.2 (show k_2<_ by omega));omega)) (Z7 (x:=(k_2,used,xs_,A_xs_,qh)) (k_2+1,zh,xs_,A_xs_,qh) ⟨by omega,xg.trans (by subst hr1 hr2 hr4 hr5 hr8;rw[zr];exact Y5 (ux) (Zk h8 (Zk h9 (rfl)))),(by (try have kx_:=Xw kb_.2 (show k_2<_ by omega));exact sl),(by (try have kx_:=Xw kb_.2 (show k_2<_ by omega));exact sl)⟩ (mN zp) Kr (sb 508))))))
         ·have nf:=(Jb (Zx h9))
          refine Yg (TC.region (Zc 2 [0] [(194,Za.v r8.1),(195,.p0 b5)] {} (Ym 1 (Bk b5 (followed.c (⟨r8.1,x_3.history,x_3.hit⟩:followed)) 111) (fun _=>{}) (Zb rfl ?_))))
          let Mr36_:Mem:=[Bk b7 (Za.c r8.1) 107,Bk b5 (followed.c (⟨r8.1,x_3.history,x_3.hit⟩:followed)) 111,Ow A_6 c_6 4 1 (zh.map bc),Ow A_5 c_5 3 1 (r5.1.map ic),Ow A_all_2 q8 111 23 (q7.map followed.c),Ow A c 46 6 (r2.1.map Zm.c),Ow A_l c_l 46 6 (l.map Zm.c)]
          refine Jt (G:=Nat×AN) (base:=[(0,.p0 b_t),(2,.i time),(9,.slice A r2.1.length c),(20,.slice A_5 r5.1.length c_5),(23,.slice A_6 zh.length c_6),(25,.p0 b5),(122,.slice A_all_2 q7.length q8),(123,.i (q7.length:Int)),(124,.i (k_2:Int))]) (vals:=fun γ=>[.p0 b_t,.p0 b_t,.p0 b_t,.pt b_t 6,.slice A_xs_ xs_.length qh,followed.v (⟨r8.1,x_3.history,x_3.hit⟩:followed),.slice (Pa γ.1) 1 1,.slice (γ.2.1) ((xs_++([(⟨r8.1,x_3.history,x_3.hit⟩:followed)])).length) (γ.2.2),.p0 b_t,.pt b_t 6,undef]) (writes:=[6,7,10]) (mem:=fun bs γ=>match bs with | [x6_,x7_,pz]=>(bif x6_ then [Bk γ.1 (followed.c (⟨r8.1,x_3.history,x_3.hit⟩:followed)) 111] else [])++((bif x7_ then [Ow (γ.2.1) (γ.2.2) 111 23 ((xs_++([(⟨r8.1,x_3.history,x_3.hit⟩:followed)])).map followed.c)] else [Ow A_xs_ qh 111 23 (xs_.map followed.c)])++((bif pz then [Bk b_t (Zi.k (⟨t.rules,(xs_++([(⟨r8.1,x_3.history,x_3.hit⟩:followed)])),t.next,time⟩:Zi) (γ.2.1) (γ.2.2)) 104] else [Bk b_t (Zi.k (⟨t.rules,xs_,t.next,time⟩:Zi) A_xs_ qh) 104])++(Mr36_)))|_=>[]) (0,(none,0)) (fun γ=>[(0,.p0 b_t),(2,.i time),(9,.slice A r2.1.length c),(20,.slice A_5 r5.1.length c_5),(23,.slice A_6 zh.length c_6),(122,.slice A_all_2 q7.length q8),(123,.i (q7.length:Int)),(124,.i (k_2:Int))]) Kr Kr Kr Kr Kr (fun γ=>Kr) (fun _ hM=>hM.perm (px [2,7,0,1,3,4,5,6,8])) (fun γ=>Kr) ?_ ?_
          ·skip
           exact Steps.run (i:=0) 4 [0,0,0,0] Mr36_ Kr Kr (fun S (γ:Nat×AN) w hM=>by rw[mS3 rfl rfl rfl] at hM;exact hM.sub (Zh (Zh (Zh (aA _))))) Kr (fun (γ:Nat×AN)=>{}) (Vy (i:=4) (fun (γ:Nat×AN)=>sV (Instr.loadAt 102 (.pt b_t 6))) (some 200) (fun (γ:Nat×AN)=>.slice A_xs_ xs_.length qh) (fun _=>[Bk b_t (Zi.k (⟨t.rules,xs_,t.next,time⟩:Zi) A_xs_ qh) 104]++Mr36_) Kr (fun S (γ:Nat×AN) w hi hd hu hM=>by rw[mS3 rfl rfl (lat (hu 4 10 Kr) hi)] at hM;exact hM.sub (Zh (Zh (GR (aA _))))) (fun (γ:Nat×AN) w hM=>QZ (j:=0) hM _ _ [(b_t,b_t)] Kr (by intro p hp;rw[aV.1 hp])) (fun (γ:Nat×AN)=>Kr) (fun (γ:Nat×AN)=>Kr) (Steps.run (i:=5) 6 [1] Mr36_ Kr Kr (fun S (γ:Nat×AN) w hM=>by rw[mS3 rfl rfl rfl] at hM;exact hM.sub (Zh (Zh (Zh (aA _))))) Kr (fun (γ:Nat×AN)=>{}) (Steps.op (i:=6) (Γ:=Nat) (fun g (γ:Nat×AN)=>(g,γ.2)) (fun _=>[]) (fun b (γ:Nat×AN)=>[Bk b (followed.c (⟨r8.1,x_3.history,x_3.hit⟩:followed)) 111]) (fun S (γ:Nat×AN)=>(bif S 7 then [Ow (γ.2.1) (γ.2.2) 111 23 ((xs_++([(⟨r8.1,x_3.history,x_3.hit⟩:followed)])).map followed.c)] else [Ow A_xs_ qh 111 23 (xs_.map followed.c)])++((bif S 10 then [Bk b_t (Zi.k (⟨t.rules,(xs_++([(⟨r8.1,x_3.history,x_3.hit⟩:followed)])),t.next,time⟩:Zi) (γ.2.1) (γ.2.2)) 104] else [Bk b_t (Zi.k (⟨t.rules,xs_,t.next,time⟩:Zi) A_xs_ qh) 104])++(Mr36_))) [6,7,8,9,10] (fun (γ:Nat×AN)=>sV (Instr.buildSlice 102 1 #[(0,followed.v (⟨r8.1,x_3.history,x_3.hit⟩:followed))])) (some 202) (fun b (γ:Nat×AN)=>.slice (Pa b) 1 1) (fun S (γ:Nat×AN) hj hd hl=>by rw[mS3 hj rfl rfl];exact aC _) (fun S (γ:Nat×AN) g _=>(aC _).symm) (fun (γ:Nat×AN) M' w hM=>Jd (v:=fun b=>.slice (Pa b) 1 1) (fun b M=>Kr) M' w hM) (fun (γ:Nat×AN)=>Kr) (fun (γ:Nat×AN) g=>Kr) Kr (fun (γ:Nat×AN) g=>Kr) (Vz (i:=7) (Γ:=AN) (fun g (γ:Nat×AN)=>(γ.1,g)) (fun (γ:Nat×AN)=>[Ow A_xs_ qh 111 23 (xs_.map followed.c),Bk γ.1 (followed.c (⟨r8.1,x_3.history,x_3.hit⟩:followed)) 111]) (fun g (γ:Nat×AN)=>[Ow (g.1) (g.2) 111 23 ((xs_++([(⟨r8.1,x_3.history,x_3.hit⟩:followed)])).map followed.c),Bk γ.1 (followed.c (⟨r8.1,x_3.history,x_3.hit⟩:followed)) 111]) (fun S (γ:Nat×AN)=>(bif S 10 then [Bk b_t (Zi.k (⟨t.rules,(xs_++([(⟨r8.1,x_3.history,x_3.hit⟩:followed)])),t.next,time⟩:Zi) (γ.2.1) (γ.2.2)) 104] else [Bk b_t (Zi.k (⟨t.rules,xs_,t.next,time⟩:Zi) A_xs_ qh) 104])++(Mr36_)) [7,8,9,10] (fun (γ:Nat×AN)=>sV (Builtin.append_ #[102,102] 102 #[.slice A_xs_ xs_.length qh,.slice (Pa γ.1) 1 1])) (some 203) (fun g (γ:Nat×AN)=>.slice (g.1) ((xs_++([(⟨r8.1,x_3.history,x_3.hit⟩:followed)])).length) (g.2)) (fun S (γ:Nat×AN) hj hd hl=>by change List.Perm (((bif S 6 then [Bk γ.1 (followed.c (⟨r8.1,x_3.history,x_3.hit⟩:followed)) 111] else [])++((bif S 7 then [Ow (γ.2.1) (γ.2.2) 111 23 ((xs_++([(⟨r8.1,x_3.history,x_3.hit⟩:followed)])).map followed.c)] else [Ow A_xs_ qh 111 23 (xs_.map followed.c)])++((bif S 10 then [Bk b_t (Zi.k (⟨t.rules,(xs_++([(⟨r8.1,x_3.history,x_3.hit⟩:followed)])),t.next,time⟩:Zi) (γ.2.1) (γ.2.2)) 104] else [Bk b_t (Zi.k (⟨t.rules,xs_,t.next,time⟩:Zi) A_xs_ qh) 104])++(Mr36_)))):Mem) _;rw[hj,hd 6 Kr];exact((aB _ (aC _)).trans (ZP _ _ _)).trans (aB _ ((aC _).trans (aB _ (aC _))))) (fun S (γ:Nat×AN) g _ hd hl=>by change List.Perm ([Ow (g.1) (g.2) 111 23 ((xs_++([(⟨r8.1,x_3.history,x_3.hit⟩:followed)])).map followed.c)]++([Bk γ.1 (followed.c (⟨r8.1,x_3.history,x_3.hit⟩:followed)) 111]++((bif S 10 then [Bk b_t (Zi.k (⟨t.rules,(xs_++([(⟨r8.1,x_3.history,x_3.hit⟩:followed)])),t.next,time⟩:Zi) (γ.2.1) (γ.2.2)) 104] else [Bk b_t (Zi.k (⟨t.rules,xs_,t.next,time⟩:Zi) A_xs_ qh) 104])++(Mr36_)))) (((bif S 6 then [Bk γ.1 (followed.c (⟨r8.1,x_3.history,x_3.hit⟩:followed)) 111] else [])++((bif true then [Ow (g.1) (g.2) 111 23 ((xs_++([(⟨r8.1,x_3.history,x_3.hit⟩:followed)])).map followed.c)] else [Ow A_xs_ qh 111 23 (xs_.map followed.c)])++((bif S 10 then [Bk b_t (Zi.k (⟨t.rules,(xs_++([(⟨r8.1,x_3.history,x_3.hit⟩:followed)])),t.next,time⟩:Zi) (g.1) (g.2)) 104] else [Bk b_t (Zi.k (⟨t.rules,xs_,t.next,time⟩:Zi) A_xs_ qh) 104])++(Mr36_)))):Mem);rw[hd 6 Kr,hl 10 Kr];exact(((aB _ (aC _)).trans (ZP _ _ _)).trans (aB _ ((aC _).trans (aB _ (aC _))))).symm) (fun (γ:Nat×AN) M' w hM=>Jc (bytes:=184) 102 0 ([(⟨r8.1,x_3.history,x_3.hit⟩:followed)]) Kr rfl rfl followed.one rfl (fun w hM=>(Rd.lit hM 1 _ rfl Kr Kr Kr)) rfl (by (try have kx_:=Xw kb_.2 (show k_2<_ by omega));exact sa) w hM) (fun (γ:Nat×AN)=>Kr) (fun (γ:Nat×AN) g=>Kr) Kr (fun (γ:Nat×AN) g=>Kr) (Steps.run (i:=8) 10 [0,0] Mr36_ Kr Kr (fun S (γ:Nat×AN) w hM=>by rw[mS3 rfl rfl rfl] at hM;exact hM.sub (Zh (Zh (Zh (aA _))))) Kr (fun (γ:Nat×AN)=>{}) (Steps.put (i:=10) (fun (γ:Nat×AN)=>[Bk b_t (Zi.k (⟨t.rules,xs_,t.next,time⟩:Zi) A_xs_ qh) 104]) (fun (γ:Nat×AN)=>[Bk b_t (Zi.k (⟨t.rules,(xs_++([(⟨r8.1,x_3.history,x_3.hit⟩:followed)])),t.next,time⟩:Zi) (γ.2.1) (γ.2.2)) 104]) (fun S (γ:Nat×AN)=>(bif S 6 then [Bk γ.1 (followed.c (⟨r8.1,x_3.history,x_3.hit⟩:followed)) 111] else [])++((bif S 7 then [Ow (γ.2.1) (γ.2.2) 111 23 ((xs_++([(⟨r8.1,x_3.history,x_3.hit⟩:followed)])).map followed.c)] else [Ow A_xs_ qh 111 23 (xs_.map followed.c)])++(Mr36_))) (fun (γ:Nat×AN)=>sU (Instr.storeAt 102 (.pt b_t 6) (.slice (γ.2.1) ((xs_++([(⟨r8.1,x_3.history,x_3.hit⟩:followed)])).length) (γ.2.2)))) none (fun S (γ:Nat×AN) hj hd hl=>by rw[mS3 rfl rfl hj];exact(aB _ ((aB _ (aC _)).trans (ZP _ _ _))).trans (ZP _ _ _)) (fun S (γ:Nat×AN) _=>((aB _ ((aB _ (aC _)).trans (ZP _ _ _))).trans (ZP _ _ _)).symm) (fun (γ:Nat×AN) M' w hM=>JJ (fun b M=>Kr) (fun b M=>Kr) M' w hM) (fun (γ:Nat×AN)=>Kr) (fun (γ:Nat×AN)=>Kr) (XH Kr)))))))
          ·rintro⟨b8,⟨A_7,c_7⟩⟩
           exact Yp [Bk b8 (followed.c (⟨r8.1,x_3.history,x_3.hit⟩:followed)) 111,Ow A_7 c_7 111 23 ((xs_++([(⟨r8.1,x_3.history,x_3.hit⟩:followed)])).map followed.c),Bk b_t (Zi.k (⟨t.rules,(xs_++([(⟨r8.1,x_3.history,x_3.hit⟩:followed)])),t.next,time⟩:Zi) A_7 c_7) 104,Bk b7 (Za.c r8.1) 107,Bk b5 (followed.c (⟨r8.1,x_3.history,x_3.hit⟩:followed)) 111,Ow A_6 c_6 4 1 (zh.map bc),Ow A_5 c_5 3 1 (r5.1.map ic),Ow A_all_2 q8 111 23 (q7.map followed.c),Ow A c 46 6 (r2.1.map Zm.c),Ow A_l c_l 46 6 (l.map Zm.c)] (fun _ hM=>hM) (Yr (Z4 (TC.region (Zc 2 [] [(124,.i (w64 ((k_2:Int)+1)))] {} (Z2 rfl (Yp [Ow A_7 c_7 111 23 ((xs_++([(⟨r8.1,x_3.history,x_3.hit⟩:followed)])).map followed.c),Ow A_6 c_6 4 1 (zh.map bc),Ow A_5 c_5 3 1 (r5.1.map ic),Ow A_all_2 q8 111 23 (q7.map followed.c),Ow A c 46 6 (r2.1.map Zm.c),Bk b_t (Zi.k (⟨t.rules,(xs_++([(⟨r8.1,x_3.history,x_3.hit⟩:followed)])),t.next,time⟩:Zi) A_7 c_7) 104,Ow A_l c_l 46 6 (l.map Zm.c),Bk b8 (followed.c (⟨r8.1,x_3.history,x_3.hit⟩:followed)) 111,Bk b7 (Za.c r8.1) 107,Bk b5 (followed.c (⟨r8.1,x_3.history,x_3.hit⟩:followed)) 111] (fun _ hM=>hM.perm (px [1,5,6,7,8,2,9,0,3,4])) (TE.rw 124 (.i (w64 ((k_2:Int)+1))) (.i ((k_2+1:Nat):Int)) Kr (ZT k_2 (by (try have kx_:=Xw kb_.2 (show k_2<_ by omega));omega)) (Z7 (x:=(k_2,used,xs_,A_xs_,qh)) (k_2+1,zh,(xs_++([(⟨r8.1,x_3.history,x_3.hit⟩:followed)])),A_7,c_7) ⟨by omega,xg.trans (by subst hr1 hr2 hr4 hr5 hr8;rw[zr];exact Y5 (ux) (Zk h8 (Zd h9 (rfl)))),(by (try have kx_:=Xw kb_.2 (show k_2<_ by omega));exact sl),(by (try have kx_:=Xw kb_.2 (show k_2<_ by omega));exact sl)⟩ (mN zp) Kr (sb 127)))))))))
       ·refine Yg ?_
        let Mr36_:Mem:=[Bk b5 (followed.c x_3) 111,Ow A_6 c_6 4 1 (zh.map bc),Ow A_5 c_5 3 1 (r5.1.map ic),Ow A_all_2 q8 111 23 (q7.map followed.c),Ow A c 46 6 (r2.1.map Zm.c),Ow A_l c_l 46 6 (l.map Zm.c)]
        refine Jt (G:=Nat×AN) (base:=[(0,.p0 b_t),(2,.i time),(9,.slice A r2.1.length c),(20,.slice A_5 r5.1.length c_5),(23,.slice A_6 zh.length c_6),(25,.p0 b5),(122,.slice A_all_2 q7.length q8),(123,.i (q7.length:Int)),(124,.i (k_2:Int))]) (vals:=fun γ=>[.p0 b_t,.p0 b_t,.p0 b_t,.pt b_t 6,.slice A_xs_ xs_.length qh,followed.v x_3,.slice (Pa γ.1) 1 1,.slice (γ.2.1) ((xs_++([x_3])).length) (γ.2.2),.p0 b_t,.pt b_t 6,undef]) (writes:=[6,7,10]) (mem:=fun bs γ=>match bs with | [x6_,x7_,pz]=>(bif x6_ then [Bk γ.1 (followed.c x_3) 111] else [])++((bif x7_ then [Ow (γ.2.1) (γ.2.2) 111 23 ((xs_++([x_3])).map followed.c)] else [Ow A_xs_ qh 111 23 (xs_.map followed.c)])++((bif pz then [Bk b_t (Zi.k (⟨t.rules,(xs_++([x_3])),t.next,time⟩:Zi) (γ.2.1) (γ.2.2)) 104] else [Bk b_t (Zi.k (⟨t.rules,xs_,t.next,time⟩:Zi) A_xs_ qh) 104])++(Mr36_)))|_=>[]) (0,(none,0)) (fun γ=>[(0,.p0 b_t),(2,.i time),(9,.slice A r2.1.length c),(20,.slice A_5 r5.1.length c_5),(23,.slice A_6 zh.length c_6),(122,.slice A_all_2 q7.length q8),(123,.i (q7.length:Int)),(124,.i (k_2:Int))]) Kr Kr Kr Kr Kr (fun γ=>Kr) (fun _ hM=>hM.perm (px [1,6,0,2,3,4,5,7])) (fun γ=>Kr) ?_ ?_
        ·skip
         exact Steps.run (i:=0) 4 [0,0,0,0] Mr36_ Kr Kr (fun S (γ:Nat×AN) w hM=>by rw[mS3 rfl rfl rfl] at hM;exact hM.sub (Zh (Zh (Zh (aA _))))) Kr (fun (γ:Nat×AN)=>{}) (Vy (i:=4) (fun (γ:Nat×AN)=>sV (Instr.loadAt 102 (.pt b_t 6))) (some 200) (fun (γ:Nat×AN)=>.slice A_xs_ xs_.length qh) (fun _=>[Bk b_t (Zi.k (⟨t.rules,xs_,t.next,time⟩:Zi) A_xs_ qh) 104]++Mr36_) Kr (fun S (γ:Nat×AN) w hi hd hu hM=>by rw[mS3 rfl rfl (lat (hu 4 10 Kr) hi)] at hM;exact hM.sub (Zh (Zh (GR (aA _))))) (fun (γ:Nat×AN) w hM=>QZ (j:=0) hM _ _ [(b_t,b_t)] Kr (by intro p hp;rw[aV.1 hp])) (fun (γ:Nat×AN)=>Kr) (fun (γ:Nat×AN)=>Kr) (Steps.run (i:=5) 6 [0] Mr36_ Kr Kr (fun S (γ:Nat×AN) w hM=>by rw[mS3 rfl rfl rfl] at hM;exact hM.sub (Zh (Zh (Zh (aA _))))) Kr (fun (γ:Nat×AN)=>{}) (Steps.op (i:=6) (Γ:=Nat) (fun g (γ:Nat×AN)=>(g,γ.2)) (fun _=>[]) (fun b (γ:Nat×AN)=>[Bk b (followed.c x_3) 111]) (fun S (γ:Nat×AN)=>(bif S 7 then [Ow (γ.2.1) (γ.2.2) 111 23 ((xs_++([x_3])).map followed.c)] else [Ow A_xs_ qh 111 23 (xs_.map followed.c)])++((bif S 10 then [Bk b_t (Zi.k (⟨t.rules,(xs_++([x_3])),t.next,time⟩:Zi) (γ.2.1) (γ.2.2)) 104] else [Bk b_t (Zi.k (⟨t.rules,xs_,t.next,time⟩:Zi) A_xs_ qh) 104])++(Mr36_))) [6,7,8,9,10] (fun (γ:Nat×AN)=>sV (Instr.buildSlice 102 1 #[(0,followed.v x_3)])) (some 202) (fun b (γ:Nat×AN)=>.slice (Pa b) 1 1) (fun S (γ:Nat×AN) hj hd hl=>by rw[mS3 hj rfl rfl];exact aC _) (fun S (γ:Nat×AN) g _=>(aC _).symm) (fun (γ:Nat×AN) M' w hM=>Jd (v:=fun b=>.slice (Pa b) 1 1) (fun b M=>Kr) M' w hM) (fun (γ:Nat×AN)=>Kr) (fun (γ:Nat×AN) g=>Kr) Kr (fun (γ:Nat×AN) g=>Kr) (Vz (i:=7) (Γ:=AN) (fun g (γ:Nat×AN)=>(γ.1,g)) (fun (γ:Nat×AN)=>[Ow A_xs_ qh 111 23 (xs_.map followed.c),Bk γ.1 (followed.c x_3) 111]) (fun g (γ:Nat×AN)=>[Ow (g.1) (g.2) 111 23 ((xs_++([x_3])).map followed.c),Bk γ.1 (followed.c x_3) 111]) (fun S (γ:Nat×AN)=>(bif S 10 then [Bk b_t (Zi.k (⟨t.rules,(xs_++([x_3])),t.next,time⟩:Zi) (γ.2.1) (γ.2.2)) 104] else [Bk b_t (Zi.k (⟨t.rules,xs_,t.next,time⟩:Zi) A_xs_ qh) 104])++(Mr36_)) [7,8,9,10] (fun (γ:Nat×AN)=>sV (Builtin.append_ #[102,102] 102 #[.slice A_xs_ xs_.length qh,.slice (Pa γ.1) 1 1])) (some 203) (fun g (γ:Nat×AN)=>.slice (g.1) ((xs_++([x_3])).length) (g.2)) (fun S (γ:Nat×AN) hj hd hl=>by change List.Perm (((bif S 6 then [Bk γ.1 (followed.c x_3) 111] else [])++((bif S 7 then [Ow (γ.2.1) (γ.2.2) 111 23 ((xs_++([x_3])).map followed.c)] else [Ow A_xs_ qh 111 23 (xs_.map followed.c)])++((bif S 10 then [Bk b_t (Zi.k (⟨t.rules,(xs_++([x_3])),t.next,time⟩:Zi) (γ.2.1) (γ.2.2)) 104] else [Bk b_t (Zi.k (⟨t.rules,xs_,t.next,time⟩:Zi) A_xs_ qh) 104])++(Mr36_)))):Mem) _;rw[hj,hd 6 Kr];exact((aB _ (aC _)).trans (ZP _ _ _)).trans (aB _ ((aC _).trans (aB _ (aC _))))) (fun S (γ:Nat×AN) g _ hd hl=>by change List.Perm ([Ow (g.1) (g.2) 111 23 ((xs_++([x_3])).map followed.c)]++([Bk γ.1 (followed.c x_3) 111]++((bif S 10 then [Bk b_t (Zi.k (⟨t.rules,(xs_++([x_3])),t.next,time⟩:Zi) (γ.2.1) (γ.2.2)) 104] else [Bk b_t (Zi.k (⟨t.rules,xs_,t.next,time⟩:Zi) A_xs_ qh) 104])++(Mr36_)))) (((bif S 6 then [Bk γ.1 (followed.c x_3) 111] else [])++((bif true then [Ow (g.1) (g.2) 111 23 ((xs_++([x_3])).map followed.c)] else [Ow A_xs_ qh 111 23 (xs_.map followed.c)])++((bif S 10 then [Bk b_t (Zi.k (⟨t.rules,(xs_++([x_3])),t.next,time⟩:Zi) (g.1) (g.2)) 104] else [Bk b_t (Zi.k (⟨t.rules,xs_,t.next,time⟩:Zi) A_xs_ qh) 104])++(Mr36_)))):Mem);rw[hd 6 Kr,hl 10 Kr];exact(((aB _ (aC _)).trans (ZP _ _ _)).trans (aB _ ((aC _).trans (aB _ (aC _))))).symm) (fun (γ:Nat×AN) M' w hM=>Jc (bytes:=184) 102 0 ([x_3]) Kr rfl rfl followed.one rfl (fun w hM=>(Rd.lit hM 1 _ rfl Kr Kr Kr)) rfl (by (try have kx_:=Xw kb_.2 (show k_2<_ by omega));exact sa) w hM) (fun (γ:Nat×AN)=>Kr) (fun (γ:Nat×AN) g=>Kr) Kr (fun (γ:Nat×AN) g=>Kr) (Steps.run (i:=8) 10 [0,0] Mr36_ Kr Kr (fun S (γ:Nat×AN) w hM=>by rw[mS3 rfl rfl rfl] at hM;exact hM.sub (Zh (Zh (Zh (aA _))))) Kr (fun (γ:Nat×AN)=>{}) (Steps.put (i:=10) (fun (γ:Nat×AN)=>[Bk b_t (Zi.k (⟨t.rules,xs_,t.next,time⟩:Zi) A_xs_ qh) 104]) (fun (γ:Nat×AN)=>[Bk b_t (Zi.k (⟨t.rules,(xs_++([x_3])),t.next,time⟩:Zi) (γ.2.1) (γ.2.2)) 104]) (fun S (γ:Nat×AN)=>(bif S 6 then [Bk γ.1 (followed.c x_3) 111] else [])++((bif S 7 then [Ow (γ.2.1) (γ.2.2) 111 23 ((xs_++([x_3])).map followed.c)] else [Ow A_xs_ qh 111 23 (xs_.map followed.c)])++(Mr36_))) (fun (γ:Nat×AN)=>sU (Instr.storeAt 102 (.pt b_t 6) (.slice (γ.2.1) ((xs_++([x_3])).length) (γ.2.2)))) none (fun S (γ:Nat×AN) hj hd hl=>by rw[mS3 rfl rfl hj];exact(aB _ ((aB _ (aC _)).trans (ZP _ _ _))).trans (ZP _ _ _)) (fun S (γ:Nat×AN) _=>((aB _ ((aB _ (aC _)).trans (ZP _ _ _))).trans (ZP _ _ _)).symm) (fun (γ:Nat×AN) M' w hM=>JJ (fun b M=>Kr) (fun b M=>Kr) M' w hM) (fun (γ:Nat×AN)=>Kr) (fun (γ:Nat×AN)=>Kr) (XH Kr)))))))
        ·rintro⟨b9,⟨A_8,c_8⟩⟩
         exact Yp [Bk b9 (followed.c x_3) 111,Ow A_8 c_8 111 23 ((xs_++([x_3])).map followed.c),Bk b_t (Zi.k (⟨t.rules,(xs_++([x_3])),t.next,time⟩:Zi) A_8 c_8) 104,Bk b5 (followed.c x_3) 111,Ow A_6 c_6 4 1 (zh.map bc),Ow A_5 c_5 3 1 (r5.1.map ic),Ow A_all_2 q8 111 23 (q7.map followed.c),Ow A c 46 6 (r2.1.map Zm.c),Ow A_l c_l 46 6 (l.map Zm.c)] (fun _ hM=>hM) (Yr (Z4 (TC.region (Zc 2 [] [(124,.i (w64 ((k_2:Int)+1)))] {} (Z2 rfl (Yp [Ow A_8 c_8 111 23 ((xs_++([x_3])).map followed.c),Ow A_6 c_6 4 1 (zh.map bc),Ow A_5 c_5 3 1 (r5.1.map ic),Ow A_all_2 q8 111 23 (q7.map followed.c),Ow A c 46 6 (r2.1.map Zm.c),Bk b_t (Zi.k (⟨t.rules,(xs_++([x_3])),t.next,time⟩:Zi) A_8 c_8) 104,Ow A_l c_l 46 6 (l.map Zm.c),Bk b9 (followed.c x_3) 111,Bk b5 (followed.c x_3) 111] (fun _ hM=>hM.perm (px [1,4,5,6,7,2,8,0,3])) (TE.rw 124 (.i (w64 ((k_2:Int)+1))) (.i ((k_2+1:Nat):Int)) Kr (ZT k_2 (by (try have kx_:=Xw kb_.2 (show k_2<_ by omega));omega)) (Z7 (x:=(k_2,used,xs_,A_xs_,qh)) (k_2+1,zh,(xs_++([x_3])),A_8,c_8) ⟨by omega,xg.trans (by subst hr1 hr2 hr4 hr5;rw[zr];exact Y5 (ux) (Zd h8 (rfl))),(by (try have kx_:=Xw kb_.2 (show k_2<_ by omega));exact sl),(by (try have kx_:=Xw kb_.2 (show k_2<_ by omega));exact sl)⟩ (mN zp) Kr (sb 127)))))))))
     ·have zr:=QE h5
      refine TC.exit (Yc (Yc (Z1 ?_)))
      exact TE.cut (used,xs_,A_xs_,qh) (⟨xg.trans (by subst hr1 hr2 hr4 hr5;rw[zr];exact rfl),(by (try have kx_:=Xw kb_.2 (show k_2<_ by omega));exact sl),(by (try have kx_:=Xw kb_.2 (show k_2<_ by omega));exact sl)⟩) Kr (sb 115)
    ·rintro⟨zb,qt,A_xs__2,qu⟩ ⟨gr,gv,y1⟩
     refine Z4 (TC.seq (Ze (Zc 3 [] [(207,.slice A r2.1.length c),(208,.i (r2.1.length:Int)),(209,.i 0)] {} (Zb rfl ?_))))
     obtain⟨R12,uj⟩:∃ R,R=Yn zb r2.1 0 t.next qt:=⟨_,rfl⟩
     refine TC.cut (S:=Int×(List followed)×(Option Addr)×Nat) (fun (zc,jy,A_xs__4,j8)=>[(0,.p0 b_t),(2,.i time)]) (fun (zc,jy,A_xs__4,j8)=>[Ow A_xs__4 j8 111 23 (jy.map followed.c),Bk b_t (Zi.k (⟨t.rules,jy,zc,time⟩:Zi) A_xs__4 j8) 104,Ow A_l c_l 46 6 (l.map Zm.c)]) (fun (zc,jy,A_xs__4,j8)=>R12=(zc,jy)∧jy.length≤qt.length+r2.1.length) ?_ ?_
     ·refine TC.block (XB (X:=Nat×Int×(List followed)×(Option Addr)×Nat) (fun (k_3,next,q6,A_xs__3,zf)=>[(0,.p0 b_t),(2,.i time),(23,.slice A_6 zb.length c_6),(207,.slice A r2.1.length c),(208,.i (r2.1.length:Int)),(209,.i (k_3:Int))]) (fun (k_3,next,q6,A_xs__3,zf)=>[Ow A_xs__3 zf 111 23 (q6.map followed.c),Ow A_6 c_6 4 1 (zb.map bc),Ow A c 46 6 (r2.1.map Zm.c),Bk b_t (Zi.k (⟨t.rules,q6,next,time⟩:Zi) A_xs__3 zf) 104,Ow A_l c_l 46 6 (l.map Zm.c)]) (fun (k_3,next,q6,A_xs__3,zf)=>r2.1.length-k_3) (fun (k_3,next,q6,A_xs__3,zf)=>k_3≤r2.1.length∧R12=Yn zb (r2.1.drop k_3) k_3 next q6∧q6.length≤qt.length+k_3) ?_ (0,t.next,qt,A_xs__2,qu) ⟨aN _,uj,sz⟩ Kr (sb 31))
      rintro⟨k_3,next,q6,A_xs__3,zf⟩ ⟨l5,w6,ck⟩
      refine Ze (Zc 1 [] [(210,.b (decide ((k_3:Int)<(r2.1.length:Int))))] {} (Zz (TC.cond (decide ((k_3:Int)<(r2.1.length:Int))) rfl Kr (fun h10=>?_) (fun h10=>?_))))
      ·have wq:=ltN h10
       obtain⟨x_4,fl⟩:=elN wq
       have yw:=drop_at fl
       refine Yg (TC.seq (TC.block (Ze (Zc 1 [] [(211,.i (k_3:Int))] {} (TL.v (sV (Instr.indexAt 52 (.slice A r2.1.length c) (.i (k_3:Int)))) 212 (.pointer (some (Ix A (k_3*6)))) (fun w hM=>Zy (hM.rd_at 2 rfl) (by simp) Kr (by (try have kx_:=Xw kb_.2 (show k_2<_ by omega));exact sd) (by (try have kx_:=Xw kb_.2 (show k_2<_ by omega));exact sd)) {} (TL.v (sV (Instr.loadAt 46 (.pointer (some (Ix A (k_3*6)))))) 213 (Zm.v x_4) (fun w hM=>Yd (n:=6) (off:=0) (i:=k_3) (Zm.v x_4) (hM.rd_at 2 rfl) (ZR fl) Kr Kr Kr) {} (ZH 33 (fun b10=>.p0 b10) (fun b10=>Bk b10 (Zm.c Zm.zero) 46) (fun b10=>{}) (fun b10=>Zc 5 [] [(32,.i (k_3:Int))] {} (Ym 0 (Bk b10 (Zm.c x_4) 46) (fun _=>{}) (Zz (Ze (Zc 2 [] [(214,.slice A_6 zb.length c_6),(215,.i (k_3:Int))] {} (TL.v (sV (Instr.indexAt 119 (.slice A_6 zb.length c_6) (.i (k_3:Int)))) 216 (.pointer (some (Ix A_6 (k_3*1)))) (fun w hM=>Zy (hM.rd_at 2 rfl) (by simp) Kr (by (try have kx_:=Xw kb_.2 (show k_2<_ by omega));exact sd) (by (try have kx_:=Xw kb_.2 (show k_2<_ by omega));exact sd)) {} (TL.v (sV (Instr.loadAt 4 (.pointer (some (Ix A_6 (k_3*1)))))) 217 (.b ((zb[k_3]?.getD false))) (fun w hM=>Z3 (off:=0) (i:=k_3) (.b ((zb[k_3]?.getD false))) (hM.rd_at 2 rfl) (ZR (getD_at _ _ false (by (try have kx_:=Xw kb_.2 (show k_2<_ by omega));exact sd))) Kr Kr) {} (Zc 5 [] [(218,.b ((zb[k_3]?.getD false)))] {} (XT 218 ((zb[k_3]?.getD false)) 12 [] [4] (fun β=>[(225,.b (β||(decide ((q6.length:Int)≥32))))]) Kr {} {} (Zb rfl (TC.cond (((zb[k_3]?.getD false))||(decide ((q6.length:Int)≥32))) rfl Kr (fun h11=>?_) (fun h11=>?_)))))))))))))))))))
       ·refine TC.exit (Yc (Z1 ?_))
        exact Z4 (TC.region (Zc 2 [] [(209,.i (w64 ((k_3:Int)+1)))] {} (Z2 rfl (TE.rw 209 (.i (w64 ((k_3:Int)+1))) (.i ((k_3+1:Nat):Int)) Kr (ZT k_3 (by (try have kx_:=Xw kb_.2 (show k_2<_ by omega));omega)) (Z7 (x:=(k_3,next,q6,A_xs__3,zf)) (k_3+1,next,q6,A_xs__3,zf) ⟨by omega,w6.trans (by subst hr1 hr2 hr4 hr5;rw[yw];exact Zk h11 (rfl)),(by (try have kx_:=Xw kb_.2 (show k_2<_ by omega));exact sl)⟩ (mN wq) Kr (sb 62))))))
       ·have fw:=(Zt (Z9 h11))
        refine ZI (Zc 1 [0] [(227,Zm.v x_4)] {} (TL.c 228 (YM x_4) (fun r9=>.tuple #[Za.v r9.1,.i r9.2]) (fun w _=>BL x_4 w) {} (fun r9 hr9=>Zc 5 [] [(229,Za.v r9.1),(230,.i r9.2)] {} (ZH 34 (fun b11=>.p0 b11) (fun b11=>Bk b11 (Za.c Za.zero) 107) (fun b11=>{}) (fun b11=>Ym 0 (Bk b11 (Za.c r9.1) 107) (fun _=>{}) (Zc 8 [] [] {} (Zv (Zc 6 [5] [(234,.i next),(236,.p0 b11)] {} (Ym 0 (Bk b11 (Za.c (⟨⟨next,r9.1.Track.State,r9.1.Track.Time,r9.1.Track.At,r9.1.Track.Speed,r9.1.Track.Height,r9.1.Track.Rate,r9.1.Track.Radius,r9.1.Track.Code,r9.1.Track.Hits,r9.1.Track.Misses⟩,r9.1.Slack,r9.1.Last⟩:Za)) 107) (fun _=>{}) (Zv (Zc 7 [5] [(241,.i (w64 (next+1))),(243,.pt b_t 7)] {} (Ym 5 (Bk b_t (Zi.k (⟨t.rules,q6,w64 (next+1),time⟩:Zi) A_xs__3 zf) 104) (fun _=>{}) (Zb rfl ?_)))))))))))))
        let Mr45_:Mem:=[Bk b11 (Za.c (⟨⟨next,r9.1.Track.State,r9.1.Track.Time,r9.1.Track.At,r9.1.Track.Speed,r9.1.Track.Height,r9.1.Track.Rate,r9.1.Track.Radius,r9.1.Track.Code,r9.1.Track.Hits,r9.1.Track.Misses⟩,r9.1.Slack,r9.1.Last⟩:Za)) 107,Bk b10 (Zm.c x_4) 46,Ow A_6 c_6 4 1 (zb.map bc),Ow A c 46 6 (r2.1.map Zm.c),Ow A_l c_l 46 6 (l.map Zm.c)]
        refine Jt (G:=Nat×AN) (base:=[(0,.p0 b_t),(2,.i time),(23,.slice A_6 zb.length c_6),(34,.p0 b11),(207,.slice A r2.1.length c),(208,.i (r2.1.length:Int)),(209,.i (k_3:Int))]) (vals:=fun γ=>[.p0 b_t,.p0 b_t,.p0 b_t,.pt b_t 6,.slice A_xs__3 q6.length zf,Za.v (⟨⟨next,r9.1.Track.State,r9.1.Track.Time,r9.1.Track.At,r9.1.Track.Speed,r9.1.Track.Height,r9.1.Track.Rate,r9.1.Track.Radius,r9.1.Track.Code,r9.1.Track.Hits,r9.1.Track.Misses⟩,r9.1.Slack,r9.1.Last⟩:Za),followed.v (⟨⟨⟨next,r9.1.Track.State,r9.1.Track.Time,r9.1.Track.At,r9.1.Track.Speed,r9.1.Track.Height,r9.1.Track.Rate,r9.1.Track.Radius,r9.1.Track.Code,r9.1.Track.Hits,r9.1.Track.Misses⟩,r9.1.Slack,r9.1.Last⟩,⟨0,0⟩,true⟩:followed),.slice (Pa γ.1) 1 1,.slice (γ.2.1) ((q6++([(⟨⟨⟨next,r9.1.Track.State,r9.1.Track.Time,r9.1.Track.At,r9.1.Track.Speed,r9.1.Track.Height,r9.1.Track.Rate,r9.1.Track.Radius,r9.1.Track.Code,r9.1.Track.Hits,r9.1.Track.Misses⟩,r9.1.Slack,r9.1.Last⟩,⟨0,0⟩,true⟩:followed)])).length) (γ.2.2),.p0 b_t,.pt b_t 6,undef]) (writes:=[7,8,11]) (mem:=fun bs γ=>match bs with | [x7_,x8_,fk]=>(bif x7_ then [Bk γ.1 (followed.c (⟨⟨⟨next,r9.1.Track.State,r9.1.Track.Time,r9.1.Track.At,r9.1.Track.Speed,r9.1.Track.Height,r9.1.Track.Rate,r9.1.Track.Radius,r9.1.Track.Code,r9.1.Track.Hits,r9.1.Track.Misses⟩,r9.1.Slack,r9.1.Last⟩,⟨0,0⟩,true⟩:followed)) 111] else [])++((bif x8_ then [Ow (γ.2.1) (γ.2.2) 111 23 ((q6++([(⟨⟨⟨next,r9.1.Track.State,r9.1.Track.Time,r9.1.Track.At,r9.1.Track.Speed,r9.1.Track.Height,r9.1.Track.Rate,r9.1.Track.Radius,r9.1.Track.Code,r9.1.Track.Hits,r9.1.Track.Misses⟩,r9.1.Slack,r9.1.Last⟩,⟨0,0⟩,true⟩:followed)])).map followed.c)] else [Ow A_xs__3 zf 111 23 (q6.map followed.c)])++((bif fk then [Bk b_t (Zi.k (⟨t.rules,(q6++([(⟨⟨⟨next,r9.1.Track.State,r9.1.Track.Time,r9.1.Track.At,r9.1.Track.Speed,r9.1.Track.Height,r9.1.Track.Rate,r9.1.Track.Radius,r9.1.Track.Code,r9.1.Track.Hits,r9.1.Track.Misses⟩,r9.1.Slack,r9.1.Last⟩,⟨0,0⟩,true⟩:followed)])),w64 (next+1),time⟩:Zi) (γ.2.1) (γ.2.2)) 104] else [Bk b_t (Zi.k (⟨t.rules,q6,w64 (next+1),time⟩:Zi) A_xs__3 zf) 104])++(Mr45_)))|_=>[]) (0,(none,0)) (fun γ=>[(0,.p0 b_t),(2,.i time),(23,.slice A_6 zb.length c_6),(207,.slice A r2.1.length c),(208,.i (r2.1.length:Int)),(209,.i (k_3:Int))]) Kr Kr Kr Kr Kr (fun γ=>Kr) (fun _ hM=>hM.perm (px [2,5,0,1,3,4,6])) (fun γ=>Kr) ?_ ?_
        ·skip
         exact Steps.run (i:=0) 4 [0,0,0,0] Mr45_ Kr Kr (fun S (γ:Nat×AN) w hM=>by rw[mS3 rfl rfl rfl] at hM;exact hM.sub (Zh (Zh (Zh (aA _))))) Kr (fun (γ:Nat×AN)=>{}) (Vy (i:=4) (fun (γ:Nat×AN)=>sV (Instr.loadAt 102 (.pt b_t 6))) (some 248) (fun (γ:Nat×AN)=>.slice A_xs__3 q6.length zf) (fun _=>[Bk b_t (Zi.k (⟨t.rules,q6,w64 (next+1),time⟩:Zi) A_xs__3 zf) 104]++Mr45_) Kr (fun S (γ:Nat×AN) w hi hd hu hM=>by rw[mS3 rfl rfl (lat (hu 4 11 Kr) hi)] at hM;exact hM.sub (Zh (Zh (GR (aA _))))) (fun (γ:Nat×AN) w hM=>QZ (j:=0) hM _ _ [(b_t,b_t)] Kr (by intro p hp;rw[aV.1 hp])) (fun (γ:Nat×AN)=>Kr) (fun (γ:Nat×AN)=>Kr) (Steps.run (i:=5) 7 [0,0] Mr45_ Kr Kr (fun S (γ:Nat×AN) w hM=>by rw[mS3 rfl rfl rfl] at hM;exact hM.sub (Zh (Zh (Zh (aA _))))) Kr (fun (γ:Nat×AN)=>{}) (Steps.op (i:=7) (Γ:=Nat) (fun g (γ:Nat×AN)=>(g,γ.2)) (fun _=>[]) (fun b (γ:Nat×AN)=>[Bk b (followed.c (⟨⟨⟨next,r9.1.Track.State,r9.1.Track.Time,r9.1.Track.At,r9.1.Track.Speed,r9.1.Track.Height,r9.1.Track.Rate,r9.1.Track.Radius,r9.1.Track.Code,r9.1.Track.Hits,r9.1.Track.Misses⟩,r9.1.Slack,r9.1.Last⟩,⟨0,0⟩,true⟩:followed)) 111]) (fun S (γ:Nat×AN)=>(bif S 8 then [Ow (γ.2.1) (γ.2.2) 111 23 ((q6++([(⟨⟨⟨next,r9.1.Track.State,r9.1.Track.Time,r9.1.Track.At,r9.1.Track.Speed,r9.1.Track.Height,r9.1.Track.Rate,r9.1.Track.Radius,r9.1.Track.Code,r9.1.Track.Hits,r9.1.Track.Misses⟩,r9.1.Slack,r9.1.Last⟩,⟨0,0⟩,true⟩:followed)])).map followed.c)] else [Ow A_xs__3 zf 111 23 (q6.map followed.c)])++((bif S 11 then [Bk b_t (Zi.k (⟨t.rules,(q6++([(⟨⟨⟨next,r9.1.Track.State,r9.1.Track.Time,r9.1.Track.At,r9.1.Track.Speed,r9.1.Track.Height,r9.1.Track.Rate,r9.1.Track.Radius,r9.1.Track.Code,r9.1.Track.Hits,r9.1.Track.Misses⟩,r9.1.Slack,r9.1.Last⟩,⟨0,0⟩,true⟩:followed)])),w64 (next+1),time⟩:Zi) (γ.2.1) (γ.2.2)) 104] else [Bk b_t (Zi.k (⟨t.rules,q6,w64 (next+1),time⟩:Zi) A_xs__3 zf) 104])++(Mr45_))) [7,8,9,10,11] (fun (γ:Nat×AN)=>sV (Instr.buildSlice 102 1 #[(0,followed.v (⟨⟨⟨next,r9.1.Track.State,r9.1.Track.Time,r9.1.Track.At,r9.1.Track.Speed,r9.1.Track.Height,r9.1.Track.Rate,r9.1.Track.Radius,r9.1.Track.Code,r9.1.Track.Hits,r9.1.Track.Misses⟩,r9.1.Slack,r9.1.Last⟩,⟨0,0⟩,true⟩:followed))])) (some 251) (fun b (γ:Nat×AN)=>.slice (Pa b) 1 1) (fun S (γ:Nat×AN) hj hd hl=>by rw[mS3 hj rfl rfl];exact aC _) (fun S (γ:Nat×AN) g _=>(aC _).symm) (fun (γ:Nat×AN) M' w hM=>Jd (v:=fun b=>.slice (Pa b) 1 1) (fun b M=>Kr) M' w hM) (fun (γ:Nat×AN)=>Kr) (fun (γ:Nat×AN) g=>Kr) Kr (fun (γ:Nat×AN) g=>Kr) (Vz (i:=8) (Γ:=AN) (fun g (γ:Nat×AN)=>(γ.1,g)) (fun (γ:Nat×AN)=>[Ow A_xs__3 zf 111 23 (q6.map followed.c),Bk γ.1 (followed.c (⟨⟨⟨next,r9.1.Track.State,r9.1.Track.Time,r9.1.Track.At,r9.1.Track.Speed,r9.1.Track.Height,r9.1.Track.Rate,r9.1.Track.Radius,r9.1.Track.Code,r9.1.Track.Hits,r9.1.Track.Misses⟩,r9.1.Slack,r9.1.Last⟩,⟨0,0⟩,true⟩:followed)) 111]) (fun g (γ:Nat×AN)=>[Ow (g.1) (g.2) 111 23 ((q6++([(⟨⟨⟨next,r9.1.Track.State,r9.1.Track.Time,r9.1.Track.At,r9.1.Track.Speed,r9.1.Track.Height,r9.1.Track.Rate,r9.1.Track.Radius,r9.1.Track.Code,r9.1.Track.Hits,r9.1.Track.Misses⟩,r9.1.Slack,r9.1.Last⟩,⟨0,0⟩,true⟩:followed)])).map followed.c),Bk γ.1 (followed.c (⟨⟨⟨next,r9.1.Track.State,r9.1.Track.Time,r9.1.Track.At,r9.1.Track.Speed,r9.1.Track.Height,r9.1.Track.Rate,r9.1.Track.Radius,r9.1.Track.Code,r9.1.Track.Hits,r9.1.Track.Misses⟩,r9.1.Slack,r9.1.Last⟩,⟨0,0⟩,true⟩:followed)) 111]) (fun S (γ:Nat×AN)=>(bif S 11 then [Bk b_t (Zi.k (⟨t.rules,(q6++([(⟨⟨⟨next,r9.1.Track.State,r9.1.Track.Time,r9.1.Track.At,r9.1.Track.Speed,r9.1.Track.Height,r9.1.Track.Rate,r9.1.Track.Radius,r9.1.Track.Code,r9.1.Track.Hits,r9.1.Track.Misses⟩,r9.1.Slack,r9.1.Last⟩,⟨0,0⟩,true⟩:followed)])),w64 (next+1),time⟩:Zi) (γ.2.1) (γ.2.2)) 104] else [Bk b_t (Zi.k (⟨t.rules,q6,w64 (next+1),time⟩:Zi) A_xs__3 zf) 104])++(Mr45_)) [8,9,10,11] (fun (γ:Nat×AN)=>sV (Builtin.append_ #[102,102] 102 #[.slice A_xs__3 q6.length zf,.slice (Pa γ.1) 1 1])) (some 252) (fun g (γ:Nat×AN)=>.slice (g.1) ((q6++([(⟨⟨⟨next,r9.1.Track.State,r9.1.Track.Time,r9.1.Track.At,r9.1.Track.Speed,r9.1.Track.Height,r9.1.Track.Rate,r9.1.Track.Radius,r9.1.Track.Code,r9.1.Track.Hits,r9.1.Track.Misses⟩,r9.1.Slack,r9.1.Last⟩,⟨0,0⟩,true⟩:followed)])).length) (g.2)) (fun S (γ:Nat×AN) hj hd hl=>by change List.Perm (((bif S 7 then [Bk γ.1 (followed.c (⟨⟨⟨next,r9.1.Track.State,r9.1.Track.Time,r9.1.Track.At,r9.1.Track.Speed,r9.1.Track.Height,r9.1.Track.Rate,r9.1.Track.Radius,r9.1.Track.Code,r9.1.Track.Hits,r9.1.Track.Misses⟩,r9.1.Slack,r9.1.Last⟩,⟨0,0⟩,true⟩:followed)) 111] else [])++((bif S 8 then [Ow (γ.2.1) (γ.2.2) 111 23 ((q6++([(⟨⟨⟨next,r9.1.Track.State,r9.1.Track.Time,r9.1.Track.At,r9.1.Track.Speed,r9.1.Track.Height,r9.1.Track.Rate,r9.1.Track.Radius,r9.1.Track.Code,r9.1.Track.Hits,r9.1.Track.Misses⟩,r9.1.Slack,r9.1.Last⟩,⟨0,0⟩,true⟩:followed)])).map followed.c)] else [Ow A_xs__3 zf 111 23 (q6.map followed.c)])++((bif S 11 then [Bk b_t (Zi.k (⟨t.rules,(q6++([(⟨⟨⟨next,r9.1.Track.State,r9.1.Track.Time,r9.1.Track.At,r9.1.Track.Speed,r9.1.Track.Height,r9.1.Track.Rate,r9.1.Track.Radius,r9.1.Track.Code,r9.1.Track.Hits,r9.1.Track.Misses⟩,r9.1.Slack,r9.1.Last⟩,⟨0,0⟩,true⟩:followed)])),w64 (next+1),time⟩:Zi) (γ.2.1) (γ.2.2)) 104] else [Bk b_t (Zi.k (⟨t.rules,q6,w64 (next+1),time⟩:Zi) A_xs__3 zf) 104])++(Mr45_)))):Mem) _;rw[hj,hd 7 Kr];exact((aB _ (aC _)).trans (ZP _ _ _)).trans (aB _ ((aC _).trans (aB _ (aC _))))) (fun S (γ:Nat×AN) g _ hd hl=>by change List.Perm ([Ow (g.1) (g.2) 111 23 ((q6++([(⟨⟨⟨next,r9.1.Track.State,r9.1.Track.Time,r9.1.Track.At,r9.1.Track.Speed,r9.1.Track.Height,r9.1.Track.Rate,r9.1.Track.Radius,r9.1.Track.Code,r9.1.Track.Hits,r9.1.Track.Misses⟩,r9.1.Slack,r9.1.Last⟩,⟨0,0⟩,true⟩:followed)])).map followed.c)]++([Bk γ.1 (followed.c (⟨⟨⟨next,r9.1.Track.State,r9.1.Track.Time,r9.1.Track.At,r9.1.Track.Speed,r9.1.Track.Height,r9.1.Track.Rate,r9.1.Track.Radius,r9.1.Track.Code,r9.1.Track.Hits,r9.1.Track.Misses⟩,r9.1.Slack,r9.1.Last⟩,⟨0,0⟩,true⟩:followed)) 111]++((bif S 11 then [Bk b_t (Zi.k (⟨t.rules,(q6++([(⟨⟨⟨next,r9.1.Track.State,r9.1.Track.Time,r9.1.Track.At,r9.1.Track.Speed,r9.1.Track.Height,r9.1.Track.Rate,r9.1.Track.Radius,r9.1.Track.Code,r9.1.Track.Hits,r9.1.Track.Misses⟩,r9.1.Slack,r9.1.Last⟩,⟨0,0⟩,true⟩:followed)])),w64 (next+1),time⟩:Zi) (γ.2.1) (γ.2.2)) 104] else [Bk b_t (Zi.k (⟨t.rules,q6,w64 (next+1),time⟩:Zi) A_xs__3 zf) 104])++(Mr45_)))) (((bif S 7 then [Bk γ.1 (followed.c (⟨⟨⟨next,r9.1.Track.State,r9.1.Track.Time,r9.1.Track.At,r9.1.Track.Speed,r9.1.Track.Height,r9.1.Track.Rate,r9.1.Track.Radius,r9.1.Track.Code,r9.1.Track.Hits,r9.1.Track.Misses⟩,r9.1.Slack,r9.1.Last⟩,⟨0,0⟩,true⟩:followed)) 111] else [])++((bif true then [Ow (g.1) (g.2) 111 23 ((q6++([(⟨⟨⟨next,r9.1.Track.State,r9.1.Track.Time,r9.1.Track.At,r9.1.Track.Speed,r9.1.Track.Height,r9.1.Track.Rate,r9.1.Track.Radius,r9.1.Track.Code,r9.1.Track.Hits,r9.1.Track.Misses⟩,r9.1.Slack,r9.1.Last⟩,⟨0,0⟩,true⟩:followed)])).map followed.c)] else [Ow A_xs__3 zf 111 23 (q6.map followed.c)])++((bif S 11 then [Bk b_t (Zi.k (⟨t.rules,(q6++([(⟨⟨⟨next,r9.1.Track.State,r9.1.Track.Time,r9.1.Track.At,r9.1.Track.Speed,r9.1.Track.Height,r9.1.Track.Rate,r9.1.Track.Radius,r9.1.Track.Code,r9.1.Track.Hits,r9.1.Track.Misses⟩,r9.1.Slack,r9.1.Last⟩,⟨0,0⟩,true⟩:followed)])),w64 (next+1),time⟩:Zi) (g.1) (g.2)) 104] else [Bk b_t (Zi.k (⟨t.rules,q6,w64 (next+1),time⟩:Zi) A_xs__3 zf) 104])++(Mr45_)))):Mem);rw[hd 7 Kr,hl 11 Kr];exact(((aB _ (aC _)).trans (ZP _ _ _)).trans (aB _ ((aC _).trans (aB _ (aC _))))).symm) (fun (γ:Nat×AN) M' w hM=>Jc (bytes:=184) 102 0 ([(⟨⟨⟨next,r9.1.Track.State,r9.1.Track.Time,r9.1.Track.At,r9.1.Track.Speed,r9.1.Track.Height,r9.1.Track.Rate,r9.1.Track.Radius,r9.1.Track.Code,r9.1.Track.Hits,r9.1.Track.Misses⟩,r9.1.Slack,r9.1.Last⟩,⟨0,0⟩,true⟩:followed)]) Kr rfl rfl followed.one rfl (fun w hM=>(Rd.lit hM 1 _ rfl Kr Kr Kr)) rfl (by (try have kx_:=Xw kb_.2 (show k_2<_ by omega));exact sa) w hM) (fun (γ:Nat×AN)=>Kr) (fun (γ:Nat×AN) g=>Kr) Kr (fun (γ:Nat×AN) g=>Kr) (Steps.run (i:=9) 11 [0,0] Mr45_ Kr Kr (fun S (γ:Nat×AN) w hM=>by rw[mS3 rfl rfl rfl] at hM;exact hM.sub (Zh (Zh (Zh (aA _))))) Kr (fun (γ:Nat×AN)=>{}) (Steps.put (i:=11) (fun (γ:Nat×AN)=>[Bk b_t (Zi.k (⟨t.rules,q6,w64 (next+1),time⟩:Zi) A_xs__3 zf) 104]) (fun (γ:Nat×AN)=>[Bk b_t (Zi.k (⟨t.rules,(q6++([(⟨⟨⟨next,r9.1.Track.State,r9.1.Track.Time,r9.1.Track.At,r9.1.Track.Speed,r9.1.Track.Height,r9.1.Track.Rate,r9.1.Track.Radius,r9.1.Track.Code,r9.1.Track.Hits,r9.1.Track.Misses⟩,r9.1.Slack,r9.1.Last⟩,⟨0,0⟩,true⟩:followed)])),w64 (next+1),time⟩:Zi) (γ.2.1) (γ.2.2)) 104]) (fun S (γ:Nat×AN)=>(bif S 7 then [Bk γ.1 (followed.c (⟨⟨⟨next,r9.1.Track.State,r9.1.Track.Time,r9.1.Track.At,r9.1.Track.Speed,r9.1.Track.Height,r9.1.Track.Rate,r9.1.Track.Radius,r9.1.Track.Code,r9.1.Track.Hits,r9.1.Track.Misses⟩,r9.1.Slack,r9.1.Last⟩,⟨0,0⟩,true⟩:followed)) 111] else [])++((bif S 8 then [Ow (γ.2.1) (γ.2.2) 111 23 ((q6++([(⟨⟨⟨next,r9.1.Track.State,r9.1.Track.Time,r9.1.Track.At,r9.1.Track.Speed,r9.1.Track.Height,r9.1.Track.Rate,r9.1.Track.Radius,r9.1.Track.Code,r9.1.Track.Hits,r9.1.Track.Misses⟩,r9.1.Slack,r9.1.Last⟩,⟨0,0⟩,true⟩:followed)])).map followed.c)] else [Ow A_xs__3 zf 111 23 (q6.map followed.c)])++(Mr45_))) (fun (γ:Nat×AN)=>sU (Instr.storeAt 102 (.pt b_t 6) (.slice (γ.2.1) ((q6++([(⟨⟨⟨next,r9.1.Track.State,r9.1.Track.Time,r9.1.Track.At,r9.1.Track.Speed,r9.1.Track.Height,r9.1.Track.Rate,r9.1.Track.Radius,r9.1.Track.Code,r9.1.Track.Hits,r9.1.Track.Misses⟩,r9.1.Slack,r9.1.Last⟩,⟨0,0⟩,true⟩:followed)])).length) (γ.2.2)))) none (fun S (γ:Nat×AN) hj hd hl=>by rw[mS3 rfl rfl hj];exact(aB _ ((aB _ (aC _)).trans (ZP _ _ _))).trans (ZP _ _ _)) (fun S (γ:Nat×AN) _=>((aB _ ((aB _ (aC _)).trans (ZP _ _ _))).trans (ZP _ _ _)).symm) (fun (γ:Nat×AN) M' w hM=>JJ (fun b M=>Kr) (fun b M=>Kr) M' w hM) (fun (γ:Nat×AN)=>Kr) (fun (γ:Nat×AN)=>Kr) (XH Kr)))))))
        ·rintro⟨b12,⟨A_9,c_9⟩⟩
         exact Yp [Bk b12 (followed.c (⟨⟨⟨next,r9.1.Track.State,r9.1.Track.Time,r9.1.Track.At,r9.1.Track.Speed,r9.1.Track.Height,r9.1.Track.Rate,r9.1.Track.Radius,r9.1.Track.Code,r9.1.Track.Hits,r9.1.Track.Misses⟩,r9.1.Slack,r9.1.Last⟩,⟨0,0⟩,true⟩:followed)) 111,Ow A_9 c_9 111 23 ((q6++([(⟨⟨⟨next,r9.1.Track.State,r9.1.Track.Time,r9.1.Track.At,r9.1.Track.Speed,r9.1.Track.Height,r9.1.Track.Rate,r9.1.Track.Radius,r9.1.Track.Code,r9.1.Track.Hits,r9.1.Track.Misses⟩,r9.1.Slack,r9.1.Last⟩,⟨0,0⟩,true⟩:followed)])).map followed.c),Bk b_t (Zi.k (⟨t.rules,(q6++([(⟨⟨⟨next,r9.1.Track.State,r9.1.Track.Time,r9.1.Track.At,r9.1.Track.Speed,r9.1.Track.Height,r9.1.Track.Rate,r9.1.Track.Radius,r9.1.Track.Code,r9.1.Track.Hits,r9.1.Track.Misses⟩,r9.1.Slack,r9.1.Last⟩,⟨0,0⟩,true⟩:followed)])),w64 (next+1),time⟩:Zi) A_9 c_9) 104,Bk b11 (Za.c (⟨⟨next,r9.1.Track.State,r9.1.Track.Time,r9.1.Track.At,r9.1.Track.Speed,r9.1.Track.Height,r9.1.Track.Rate,r9.1.Track.Radius,r9.1.Track.Code,r9.1.Track.Hits,r9.1.Track.Misses⟩,r9.1.Slack,r9.1.Last⟩:Za)) 107,Bk b10 (Zm.c x_4) 46,Ow A_6 c_6 4 1 (zb.map bc),Ow A c 46 6 (r2.1.map Zm.c),Ow A_l c_l 46 6 (l.map Zm.c)] (fun _ hM=>hM) (Yr (Z4 (TC.region (Zc 2 [] [(209,.i (w64 ((k_3:Int)+1)))] {} (Z2 rfl (Yp [Ow A_9 c_9 111 23 ((q6++([(⟨⟨⟨next,r9.1.Track.State,r9.1.Track.Time,r9.1.Track.At,r9.1.Track.Speed,r9.1.Track.Height,r9.1.Track.Rate,r9.1.Track.Radius,r9.1.Track.Code,r9.1.Track.Hits,r9.1.Track.Misses⟩,r9.1.Slack,r9.1.Last⟩,⟨0,0⟩,true⟩:followed)])).map followed.c),Ow A_6 c_6 4 1 (zb.map bc),Ow A c 46 6 (r2.1.map Zm.c),Bk b_t (Zi.k (⟨t.rules,(q6++([(⟨⟨⟨next,r9.1.Track.State,r9.1.Track.Time,r9.1.Track.At,r9.1.Track.Speed,r9.1.Track.Height,r9.1.Track.Rate,r9.1.Track.Radius,r9.1.Track.Code,r9.1.Track.Hits,r9.1.Track.Misses⟩,r9.1.Slack,r9.1.Last⟩,⟨0,0⟩,true⟩:followed)])),w64 (next+1),time⟩:Zi) A_9 c_9) 104,Ow A_l c_l 46 6 (l.map Zm.c),Bk b12 (followed.c (⟨⟨⟨next,r9.1.Track.State,r9.1.Track.Time,r9.1.Track.At,r9.1.Track.Speed,r9.1.Track.Height,r9.1.Track.Rate,r9.1.Track.Radius,r9.1.Track.Code,r9.1.Track.Hits,r9.1.Track.Misses⟩,r9.1.Slack,r9.1.Last⟩,⟨0,0⟩,true⟩:followed)) 111,Bk b11 (Za.c (⟨⟨next,r9.1.Track.State,r9.1.Track.Time,r9.1.Track.At,r9.1.Track.Speed,r9.1.Track.Height,r9.1.Track.Rate,r9.1.Track.Radius,r9.1.Track.Code,r9.1.Track.Hits,r9.1.Track.Misses⟩,r9.1.Slack,r9.1.Last⟩:Za)) 107,Bk b10 (Zm.c x_4) 46] (fun _ hM=>hM.perm (px [1,5,6,2,7,0,3,4])) (TE.rw 209 (.i (w64 ((k_3:Int)+1))) (.i ((k_3+1:Nat):Int)) Kr (ZT k_3 (by (try have kx_:=Xw kb_.2 (show k_2<_ by omega));omega)) (Z7 (x:=(k_3,next,q6,A_xs__3,zf)) (k_3+1,w64 (next+1),(q6++([(⟨⟨⟨next,r9.1.Track.State,r9.1.Track.Time,r9.1.Track.At,r9.1.Track.Speed,r9.1.Track.Height,r9.1.Track.Rate,r9.1.Track.Radius,r9.1.Track.Code,r9.1.Track.Hits,r9.1.Track.Misses⟩,r9.1.Slack,r9.1.Last⟩,⟨0,0⟩,true⟩:followed)])),A_9,c_9) ⟨by omega,w6.trans (by subst hr1 hr2 hr4 hr5 hr9;rw[yw];exact Zd h11 (rfl)),(by (try have kx_:=Xw kb_.2 (show k_2<_ by omega));exact sl)⟩ (mN wq) Kr (sb 31)))))))))
      ·have yw:=QE h10
       refine TC.exit (Yc (Yc (Z1 ?_)))
       exact TE.cut (next,q6,A_xs__3,zf) (⟨w6.trans (by subst hr1 hr2 hr4 hr5;rw[yw];exact rfl),(by (try have kx_:=Xw kb_.2 (show k_2<_ by omega));exact sl)⟩) Kr (sb 25)
     ·rintro⟨zc,jy,A_xs__4,j8⟩ ⟨dt,cp⟩
      refine YZ (Zc 1 [] [(256,.p0 b_t)] {} (YS [Bk b_t (Zi.k (⟨t.rules,jy,zc,time⟩:Zi) A_xs__4 j8) 104,Ow A_xs__4 j8 111 23 (jy.map followed.c),Ow A_l c_l 46 6 (l.map Zm.c)] (fun _ hM=>hM.perm (px [1,0,2])) (FS (Γ:=AN) 2 257 (ZF (⟨t.rules,jy,zc,time⟩:Zi)) (fun _ _=>.tuple #[]) (fun r10 g=>[Bk b_t (Zi.k r10 g.1 g.2) 104,Ow g.1 g.2 111 23 (r10.all.map followed.c)]) [Bk b_t (Zi.k (⟨t.rules,jy,zc,time⟩:Zi) A_xs__4 j8) 104,Ow A_xs__4 j8 111 23 (jy.map followed.c)] Kr (fun w hM=>Uo b_t (⟨t.rules,jy,zc,time⟩:Zi) A_xs__4 j8 w hM (by show jy.length≤64;omega)) {} (fun r10 zl=>?_))))
      have kc_:r10.all.length≤jy.length:=HZ zl
      rintro⟨A_10,fx⟩
      refine Y2 (fun w hM=>hM.short_at 1 rfl) (fun c8=>Zv (Zc 2 [] [(258,.p0 b_t),(259,.i time)] {} (FS (Γ:=AN) 2 260 (ZV r10 time) (fun _ _=>.tuple #[]) (fun r11 g=>[Bk b_t (Zi.k r11 g.1 g.2) 104,Ow g.1 g.2 111 23 (r11.all.map followed.c)]) [Bk b_t (Zi.k r10 A_10 fx) 104,Ow A_10 fx 111 23 (r10.all.map followed.c)] Kr (fun w hM=>Gk b_t r10 A_10 fx time w hM (by omega)) {} (fun r11 zo=>?_))))
      have kf_:=Oc zo (by omega)
      rintro⟨A_11,wc⟩
      refine Y2 (fun w hM=>hM.short_at 1 rfl) (fun c9=>Zv (Zc 1 [] [(36,.slice none 0 0)] {} (Zz (Ze (Zc 6 [0] [(264,.slice A_11 r11.all.length wc),(265,.i (r11.all.length:Int)),(266,.i 0)] {} (Zb rfl (QS [Ow none 0 70 13 (([]:List Track).map Track.c),Bk b_t (Zi.k r11 A_11 wc) 104,Ow A_11 wc 111 23 (r11.all.map followed.c),Ow A_l c_l 46 6 (l.map Zm.c)] (fun _ hM=>hM.emptyrow none 70 13) ?_)))))))
      obtain⟨R15,uv⟩:∃ R,R=YY r11.all 0 ([]:List Track):=⟨_,rfl⟩
      refine TC.cut (S:=(List Track)×(Option Addr)×Nat) (fun (ql,A_out_2,qk)=>[(36,.slice A_out_2 ql.length qk)]) (fun (ql,A_out_2,qk)=>[Ow A_out_2 qk 70 13 (ql.map Track.c),Bk b_t (Zi.k r11 A_11 wc) 104,Ow A_11 wc 111 23 (r11.all.map followed.c),Ow A_l c_l 46 6 (l.map Zm.c)]) (fun (ql,A_out_2,qk)=>R15=ql∧ql.length≤r11.all.length) ?_ ?_
      ·refine TC.block (XB (X:=Nat×(List Track)×(Option Addr)×Nat) (fun (k_4,out,A_out,qg)=>[(36,.slice A_out out.length qg),(264,.slice A_11 r11.all.length wc),(265,.i (r11.all.length:Int)),(266,.i (k_4:Int))]) (fun (k_4,out,A_out,qg)=>[Ow A_out qg 70 13 (out.map Track.c),Bk b_t (Zi.k r11 A_11 wc) 104,Ow A_11 wc 111 23 (r11.all.map followed.c),Ow A_l c_l 46 6 (l.map Zm.c)]) (fun (k_4,out,A_out,qg)=>r11.all.length-k_4) (fun (k_4,out,A_out,qg)=>k_4≤r11.all.length∧R15=YY (r11.all.drop k_4) k_4 out∧out.length≤k_4) ?_ (0,([]:List Track),none,0) ⟨aN _,uv,sz⟩ Kr (sb 15))
       rintro⟨k_4,out,A_out,qg⟩ ⟨ik,p9,wo⟩
       refine Ze (Zc 1 [] [(267,.b (decide ((k_4:Int)<(r11.all.length:Int))))] {} (Zz (TC.cond (decide ((k_4:Int)<(r11.all.length:Int))) rfl Kr (fun h12=>?_) (fun h12=>?_))))
       ·have ue:=ltN h12
        obtain⟨x_5,cq⟩:=elN ue
        have uw:=drop_at cq
        refine Yg (TC.seq (TC.block (Ze (TL.v (sV (Instr.indexAt 102 (.slice A_11 r11.all.length wc) (.i (k_4:Int)))) 268 (.pointer (some (Ix A_11 (k_4*23)))) (fun w hM=>Zy (hM.rd_at 2 rfl) (by simp) Kr (by (try have kx_:=Xw kb_.2 (show k_2<_ by omega));exact sd) (by (try have kx_:=Xw kb_.2 (show k_2<_ by omega));exact sd)) {} (TL.v (sV (Instr.loadAt 111 (.pointer (some (Ix A_11 (k_4*23)))))) 269 (followed.v x_5) (fun w hM=>Yd (n:=23) (off:=0) (i:=k_4) (followed.v x_5) (hM.rd_at 2 rfl) (ZR cq) Kr Kr Kr) {} (ZH 38 (fun b13=>.p0 b13) (fun b13=>Bk b13 (followed.c followed.zero) 111) (fun b13=>{}) (fun b13=>Ym 0 (Bk b13 (followed.c x_5) 111) (fun _=>{}) (Zb rfl (TC.region (Zc 4 [0] [(270,.slice A_out out.length qg),(273,Track.v x_5.f.Track)] {} (ZH 274 (fun b14=>.slice (Pa b14) 1 1) (fun b14=>Bk b14 (Track.c x_5.f.Track) 70) (fun b14=>{}) (fun b14=>TL.os (Γ:=AN) (sV (Builtin.append_ #[66,66] 66 #[.slice A_out out.length qg,.slice (Pa b14) 1 1])) 275 (fun g=>.slice g.1 (out++([x_5.f.Track])).length g.2) 2 (fun g=>Ow g.1 g.2 70 13 ((out++([x_5.f.Track])).map Track.c)) (Jc (bytes:=104) 66 2 ([x_5.f.Track]) Kr rfl rfl Track.one rfl (fun w hM=>(Rd.lit hM 0 _ rfl Kr Kr Kr)) rfl (by (try have kx_:=Xw kb_.2 (show k_2<_ by omega));exact sa)) {} ?_))))))))))))
        rintro⟨A_12,dw⟩
        exact Zc 7 [] [(36,.slice A_12 ((out++([x_5.f.Track])).length) dw)] {} (Z2 rfl (Yr (Z4 (TC.region (Zc 2 [] [(266,.i (w64 ((k_4:Int)+1)))] {} (Z2 rfl (TE.rw 266 (.i (w64 ((k_4:Int)+1))) (.i ((k_4+1:Nat):Int)) Kr (ZT k_4 (by (try have kx_:=Xw kb_.2 (show k_2<_ by omega));omega)) (Z7 (x:=(k_4,out,A_out,qg)) (k_4+1,(out++([x_5.f.Track])),A_12,dw) ⟨by omega,p9.trans (by subst hr1 hr2 hr4 hr5 zl zo;rw[uw];exact rfl),(by (try have kx_:=Xw kb_.2 (show k_2<_ by omega));exact sl)⟩ (mN ue) Kr (sb 60)))))))))
       ·have uw:=QE h12
        refine TC.exit (Yc (Yc (Z1 ?_)))
        exact TE.cut (out,A_out,qg) (⟨p9.trans (by subst hr1 hr2 hr4 hr5 zl zo;rw[uw];exact rfl),(by (try have kx_:=Xw kb_.2 (show k_2<_ by omega));exact sl)⟩) Kr (sb 15)
      ·rintro⟨ql,A_out_2,qk⟩ ⟨gu,vu⟩
       refine YZ (Zc 3 [] [(6,.slice A_out_2 ql.length qk),(7,.i 0)] {} (Zb rfl (TC.ret ?_)))
       have e:Z5 t l time=(ql,0,r11):=by subst hr1 hr2 hr4 hr5 zl zo;unfold Z5;exact Zd h1 (Y5 (hJ) (Y5 (hR.symm.trans va) (Y5 (x9.symm.trans gr) (Y5 (uj.symm.trans dt) (Y5 (uv.symm.trans gu) (rfl))))))
       refine Yp [Bk b_t (Zi.k r11 A_11 wc) 104,Ow A_11 wc 111 23 (r11.all.map followed.c),Ow A_l c_l 46 6 (l.map Zm.c),Ow A_out_2 qk 70 13 (ql.map Track.c)] (fun _ hM=>hM.perm (px [1,2,3,0])) ?_
       rw[e]
       exact ZN (.inl rfl) ((A_out_2,qk),(A_11,wc)) [] (.tuple #[.slice A_out_2 ql.length qk,.i 0]) {} rfl (fun _ hM=>hM.sub (sb 15))
end Go.Sky
end
section
namespace Go.Sky
open Go Go.Eng Go.Glue Go.Srt
def ids (l:List followed):List Int:=l.map fun x=>x.f.Track.ID
def D2 (l:List followed):Prop:=∀ x∈l,x.f.In
theorem HH {l:List followed} {x:followed} (h:D2 l) (hx:x.f.In):D2 (x::l):=fun y hy=>by
 rcases bA.1 hy with rfl|hy
 ·exact hx
 ·exact h y hy
theorem FB {f:Za} {s:Zm} {a p v:Int} (h:(Y0 f s a p v).2=0):(Y0 f s a p v).1.In∧(Y0 f s a p v).1.Track.ID=f.Track.ID:=by
 unfold Y0 at h ⊢
 simp only[Q8] at h ⊢
 by_cases h1:(ZL f != 0)=true
 ·rw[if_pos h1] at h;simp at h h1;exact absurd h h1
 rw[if_neg h1] at h ⊢
 by_cases h2:(ZD s != 0)=true
 ·rw[if_pos h2] at h;simp at h h2;exact absurd h h2
 rw[if_neg h2] at h ⊢
 by_cases h3:Yw p 0 256=true
 ·rw[if_pos h3] at h;cases h
 rw[if_neg h3] at h ⊢
 by_cases h4:Yw v 0 256=true
 ·rw[if_pos h4] at h;cases h
 rw[if_neg h4] at h ⊢
 by_cases h5:decide (w64 (s.Time-f.Last.Time)≤0)=true
 ·rw[if_pos h5] at h;cases h
 rw[if_neg h5] at h ⊢
 by_cases h6:((Ye f s.Time a).2 != 0)=true
 ·rw[if_pos h6] at h;simp at h h6;exact absurd h h6
 rw[if_neg h6] at h ⊢
 have hk:=Hm (f:=f) (t:=s.Time) (a:=a) (by simpa using h6)
 generalize Ye f s.Time a=r5 at h hk ⊢
 split at h
 ·cases h
 ·rename_i h7
  rw[if_neg h7]
  split at h
  ·rename_i h8
   rw[if_pos h8]
   split at h
   ·cases h
   ·rename_i h9
    rw[if_neg h9]
    exact⟨Vq.1 (by simpa using h9),hk.2⟩
  ·rename_i h8
   rw[if_neg h8]
   split at h
   ·cases h
   ·rename_i h9
    rw[if_neg h9]
    exact⟨Vq.1 (by simpa using h9),hk.2⟩
theorem Oi {f:Za} (h:f.In):(JG f).1.In∧(JG f).1.Track.ID=f.Track.ID:=by
 unfold JG
 rw[Vq.2 h]
 obtain⟨a1,a2,a3,a4,a5,⟨a6,a7,a8⟩,⟨a9,a10⟩,a11,a12⟩:=h
 cases f.Track.State==2
 ·exact⟨⟨a1,a2,a3,a4,a5,⟨a6,a7,(show (0:Int)≤0 by decide)⟩,⟨a9,a10⟩,a11,a12⟩,rfl⟩
 ·exact⟨⟨a1,a2,a3,a4,a5,⟨a6,a7,(show (0:Int)≤0 by decide)⟩,⟨(show (0:Int)≤1 by decide),(show (1:Int)≤2 by decide)⟩,a11,a12⟩,rfl⟩
theorem E9 {f:Za} {n:Int} (h:(Xv f n).2.2=0):(Xv f n).1.In∧(Xv f n).1.Track.ID=f.Track.ID:=by
 unfold Xv at h ⊢
 simp only[Q8] at h ⊢
 by_cases h1:(ZL f != 0)=true
 ·rw[if_pos h1] at h;simp at h h1;exact absurd h h1
 rw[if_neg h1] at h ⊢
 obtain⟨a1,a2,a3,a4,a5,⟨a6,a7,a8⟩,⟨a9,a10⟩,a11,a12⟩:f.In:=Vq.1 (by simpa using h1)
 by_cases h2:(decide (n<0)||decide (n>100))=true
 ·rw[if_pos h2] at h;cases h
 rw[if_neg h2] at h ⊢
 have hm:f.Track.Misses<101→0≤w64 (f.Track.Misses+1):=fun hh=>by rw[Zu (by omega)];omega
 split
 ·rename_i h3
  have h3:=hm (of_decide_eq_true h3)
  split
  ·exact⟨⟨a1,a2,a3,a4,a5,⟨a6,a7,h3⟩,⟨(show (0:Int)≤2 by decide),(show (2:Int)≤2 by decide)⟩,a11,a12⟩,rfl⟩
  ·exact⟨⟨a1,a2,a3,a4,a5,⟨a6,a7,h3⟩,⟨a9,a10⟩,a11,a12⟩,rfl⟩
 ·split
  ·exact⟨⟨a1,a2,a3,a4,a5,⟨a6,a7,(show (0:Int)≤101 by decide)⟩,⟨(show (0:Int)≤2 by decide),(show (2:Int)≤2 by decide)⟩,a11,a12⟩,rfl⟩
  ·exact⟨⟨a1,a2,a3,a4,a5,⟨a6,a7,(show (0:Int)≤101 by decide)⟩,⟨a9,a10⟩,a11,a12⟩,rfl⟩
theorem NM (t:Zi) (time:Int):∀ (xs:List followed) (k:Nat) (tr:List Track) (al:List followed),∃ ys,ys.Sublist xs∧(ZX t time xs k tr al).2=al++ys
 | [],_,tr,al=>⟨[],.slnil,by unfold ZX;rw[bS]⟩
 | x::xs,k,tr,al=>by
  unfold ZX
  simp only
  cases ((Ye x.f time t.rules.Accel).2==0) with
  | true =>
   obtain⟨ys,h1,h2⟩:=NM t time xs (k+1) (tr ++ [(Ye x.f time t.rules.Accel).1.Track]) (al ++ [x])
   exact⟨x::ys,h1.cons_cons x,by rw[cond_true,h2,aT];rfl⟩
  | false =>
   obtain⟨ys,h1,h2⟩:=NM t time xs (k+1) tr al
   exact⟨ys,h1.cons x,by rw[cond_false,h2]⟩
theorem NN (t:Zi) (r2:List Zm×Int) (r5:List Int×Int×Int):∀ (xs:List followed) (k:Nat) (used:List Bool) (out:List followed),∃ ys,(Yf t r2 r5 xs k used out).2=out++ys∧(ids ys).Sublist (ids xs)∧D2 ys
 | [],_,used,out=>⟨[],by unfold Yf;rw[bS],.slnil,fun _ h=>by cases h⟩
 | x::xs,k,used,out=>by
  unfold Yf
  have key:∀ p:List Bool×followed,(p.2.hit=true→p.2.f.In)→p.2.f.Track.ID=x.f.Track.ID→∃ ys,(Xq p fun (zh,x_3) =>
    cond (!x_3.hit) (
     let r8:=Xv x_3.f t.rules.Misses
     cond ((r8.2.2 != 0)||r8.2.1) (
      Yf t r2 r5 xs (k+1) zh out) (
      Yf t r2 r5 xs (k+1) zh (out++([(⟨r8.1,x_3.history,x_3.hit⟩:followed)])))) (
     Yf t r2 r5 xs (k+1) zh (out++([x_3])))).2=out++ys∧(ids ys).Sublist (ids (x::xs))∧D2 ys:=by
   rintro⟨u,y⟩ h1 h2
   simp only at h1 h2
   unfold Xq
   simp only
   have put:∀ z:followed,z.f.In→z.f.Track.ID=x.f.Track.ID→∃ ys,(Yf t r2 r5 xs (k+1) u (out ++ [z])).2=out++ys∧(ids ys).Sublist (ids (x::xs))∧D2 ys:=fun z hz hz2=>by
    obtain⟨ys,g1,g2,g3⟩:=NN t r2 r5 xs (k+1) u (out ++ [z])
    refine⟨z::ys,by rw[g1,aT];rfl,?_,HH g3 hz⟩
    show (z.f.Track.ID::ids ys).Sublist (x.f.Track.ID::ids xs)
    rw[hz2];exact g2.cons_cons _
   cases hy:y.hit with
   | true=>exact put y (h1 hy) h2
   | false =>
    simp only[eO,cond_true]
    cases hm:((Xv y.f t.rules.Misses).2.2 != 0)||(Xv y.f t.rules.Misses).2.1 with
    | true =>
     obtain⟨ys,g1,g2,g3⟩:=NN t r2 r5 xs (k+1) u out
     exact⟨ys,g1,g2.cons _,g3⟩
    | false =>
     have hm0:(Xv y.f t.rules.Misses).2.2=0:=by simp at hm;exact hm.1
     have:=E9 hm0
     exact put ⟨(Xv y.f t.rules.Misses).1,y.history,false⟩ this.1 (this.2.trans h2)
  refine key _ ?_ ?_
  ·cases decide ((r5.1[k]?.getD 0)≥0) with
   | false=>intro h;cases h
   | true =>
    simp only[cond_true]
    cases hu:(Y0 x.f (r2.1[(r5.1[k]?.getD 0).toNat]?.getD Zm.zero) t.rules.Accel t.rules.Place t.rules.Speed).2==0 with
    | true=>intro _;exact(Oi (FB (by simpa using hu)).1).1
    | false=>intro h;cases h
  ·cases decide ((r5.1[k]?.getD 0)≥0) with
   | false=>rfl
   | true =>
    simp only[cond_true]
    cases hu:(Y0 x.f (r2.1[(r5.1[k]?.getD 0).toNat]?.getD Zm.zero) t.rules.Accel t.rules.Place t.rules.Speed).2==0 with
    | true=>have h:=FB (show _=0 by simpa using hu);exact(Oi h.1).2.trans h.2
    | false=>rfl
theorem WA (used:List Bool):∀ (xs:List Zm) (k:Nat) (next:Int) (out:List followed),out.length≤32→(Yn used xs k next out).2.length≤32
 | [],_,_,_,h=>h
 | x::xs,k,next,out,h=>by
  unfold Yn
  cases hc:(((used[k]?.getD false))||(decide ((out.length:Int)≥32))) with
  | true=>exact WA used xs (k+1) next out h
  | false =>
   have h1:¬ (out.length:Int)≥32:=by simp at hc ⊢;exact hc.2
   exact WA used xs (k+1) (w64 (next+1)) _ (by rw[aI,fI];omega)
theorem Oj {s:Zm} (h:s.In) (n:Int) (hn:0≤n):Za.In ⟨⟨n,(YM s).1.Track.State,(YM s).1.Track.Time,(YM s).1.Track.At,(YM s).1.Track.Speed,(YM s).1.Track.Height,(YM s).1.Track.Rate,(YM s).1.Track.Radius,(YM s).1.Track.Code,(YM s).1.Track.Hits,(YM s).1.Track.Misses⟩,(YM s).1.Slack,(YM s).1.Last⟩:=by
 unfold YM
 rw[KD.2 h]
 obtain⟨b1,b2,b3,b4,b5⟩:=h
 refine⟨⟨b1,b2,b3,b4,b5.1,?_⟩,(show (-12800:Int)≤0∧(0:Int)≤12800 by decide),(show (-12800:Int)≤0∧(0:Int)≤12800 by decide),(show (-3200:Int)≤0∧(0:Int)≤3200 by decide),(show (0:Int)≤6400∧(6400:Int)≤409600 by decide),⟨hn,(show (0:Int)≤1 by decide),dL _⟩,(show (0:Int)≤0∧(0:Int)≤2 by decide),⟨b1,b2,b3,b4,b5⟩,dL _⟩
 show s.Error≤4000000
 omega
theorem NP (used:List Bool):∀ (xs:List Zm) (k:Nat) (next:Int) (out:List followed),(∀ s∈xs,s.In)→0≤next→next+xs.length≤1000000000 →
  ∃ (ys:List followed) (m:Nat),Yn used xs k next out=(next+m,out++ys)∧D2 ys∧(∀ i∈ids ys,next≤i∧i<next+m)∧(ids ys).Pairwise (·<·)∧m≤xs.length
 | [],_,next,out,_,_,_=>⟨[],0,by unfold Yn;simp,(fun _ h=>by cases h),(fun _ h=>by cases h),.nil,aR _⟩
 | x::xs,k,next,out,h,h0,hn=>by
  rw[aG] at hn
  unfold Yn
  have hx:=h x (aM ..)
  have hxs:=fun s hs=>h s (aJ _ hs)
  cases hc:(((used[k]?.getD false))||(decide ((out.length:Int)≥32))) with
  | true =>
   obtain⟨ys,m,g1,g2,g3,g4,g5⟩:=NP used xs (k+1) next out hxs h0 (by omega)
   exact⟨ys,m,g1,g2,g3,g4,by rw[aG];omega⟩
  | false =>
   show ∃ ys m,Yn used xs (k+1) (w64 (next+1)) _=_∧_
   rw[Zu (by omega)]
   obtain⟨ys,m,g1,g2,g3,g4,g5⟩:=NP used xs (k+1) (next+1) _ hxs (by omega) (by omega)
   refine⟨_::ys,m+1,?_,HH (x:=⟨_,⟨0,0⟩,true⟩) g2 (Oj hx next h0),?_,?_,by rw[aG];omega⟩
   ·rw[g1,aT]
    refine Prod.ext ?_ rfl
    show next+1+(m:Int)=next+((m+1:Nat):Int)
    omega
   ·intro i hi
    rcases bA.1 hi with hi|hi
    ·have hi:i=next:=hi
     omega
    ·have:=g3 i hi;omega
   ·refine List.pairwise_cons.2 ⟨fun i hi=>?_,g4⟩
    show next<i
    have:=g3 i hi;omega
theorem WB (t:Zi):∀ (xs:List followed) (k:Nat) (out:List followed),D2 xs→∃ ys,ZK t xs k out=out++ys∧(ids ys).Sublist (ids xs)∧D2 ys
 | [],_,out,_=>⟨[],by unfold ZK;rw[bS],.slnil,fun _ h=>by cases h⟩
 | x::xs,k,out,hv=>by
  have hx:=hv x (aM ..)
  have hxs:D2 xs:=fun s hs=>hv s (aJ _ hs)
  have put:∀ z:followed,z.f.In→z.f.Track.ID=x.f.Track.ID→∃ ys,ZK t xs (k+1) (out ++ [z])=out++ys∧(ids ys).Sublist (ids (x::xs))∧D2 ys:=fun z hz hz2=>by
   obtain⟨ys,g1,g2,g3⟩:=WB t xs (k+1) (out ++ [z]) hxs
   refine⟨z::ys,by rw[g1,aT];rfl,?_,HH g3 hz⟩
   show (z.f.Track.ID::ids ys).Sublist (x.f.Track.ID::ids xs)
   rw[hz2];exact g2.cons_cons _
  unfold ZK
  simp only[Q8]
  split
  ·split
   ·obtain⟨ys,g1,g2,g3⟩:=WB t xs (k+1) out hxs
    exact⟨ys,g1,g2.cons _,g3⟩
   ·split
    ·obtain⟨a1,a2,a3,a4,a5,a6,_,a11,a12⟩:=hx
     exact put _ ⟨a1,a2,a3,a4,a5,a6,⟨(show (0:Int)≤1 by decide),(show (1:Int)≤2 by decide)⟩,a11,a12⟩ rfl
    ·exact put _ hx rfl
  ·exact put _ hx rfl
theorem LD:∀ (xs:List followed) (k:Nat) (out:List Track),YY xs k out=out++xs.map fun x=>x.f.Track
 | [],_,out=>by unfold YY;rw[List.map_nil,bS]
 | x::xs,k,out=>by unfold YY;rw[LD xs (k+1)];simp
theorem RP {t:Zi} {l:List Zm} {time:Int} {r:List Track×Int×Zi} (hr:Z5 t l time=r) :
  (r.2.1≠0∧r.1=[]∧r.2.2=t)∨(r.2.1=0∧Yb t l time=0∧r.1=r.2.2.all.map (fun x=>x.f.Track)∧r.2.2.rules=t.rules∧r.2.2.last=time∧(t.all.length≤32→r.2.2.all.length≤32) ∧
   (0≤t.next→t.next≤900000000→(ids t.all).Pairwise (·<·)→(∀ i∈ids t.all,i<t.next)→t.all.length≤32→D2 r.2.2.all∧(ids r.2.2.all).Pairwise (·<·)∧(∀ i∈ids r.2.2.all,i<r.2.2.next)∧t.next≤r.2.2.next∧r.2.2.next≤t.next+32)):=by
 unfold Z5 at hr
 simp only at hr
 cases hc:(Yb t l time != 0) with
 | true =>
  rw[hc,cond_true] at hr
  subst hr
  exact .inl ⟨by simpa using hc,rfl,rfl⟩
 | false =>
  have hc0:Yb t l time=0:=by simpa using hc
  have hs:=L8.1 hc0
  have hsp:=L9 (r:=YA l 500) hs.1 hs.2.2.2 rfl
  rw[hc,cond_false] at hr
  generalize YA l 500=r2 at hr hsp
  unfold Xq at hr
  generalize (cond (decide (t.last≥0)) (ZC 60000 (w64 (500+w64 (200*w64 (time-t.last))))) 60000)=qd at hr
  simp only at hr
  obtain⟨al,ha,ha2⟩:=NM t time t.all 0 [] []
  generalize ZX t time t.all 0 [] []=e1 at hr ha2
  obtain⟨tr,al2⟩:=e1
  simp only[cO] at ha2 hr
  subst ha2
  generalize XF (XK tr r2.1 qd).1 2147483648=r5 at hr
  obtain⟨ys,hy1,hy2,hy3⟩:=NN t r2 r5 al2 0 (List.replicate ((r2.1.length:Int).toNat) false) []
  generalize Yf t r2 r5 al2 0 (List.replicate ((r2.1.length:Int).toNat) false) []=e2 at hr hy1
  obtain⟨used,xs2⟩:=e2
  simp only[cO] at hy1 hr
  subst hy1
  have hal:al2.length≤t.all.length:=ha.length_le
  have hxl:xs2.length≤al2.length:=by have:=hy2.length_le;unfold ids at this;simpa using this
  have h3:=WA used r2.1 0 t.next xs2
  have h3b:=NP used r2.1 0 t.next xs2 (fun s hs=>(hsp.2 s hs).1)
  generalize Yn used r2.1 0 t.next xs2=e3 at hr h3 h3b
  obtain⟨next,xs4⟩:=e3
  simp only at hr h3 h3b
  generalize hcf:ZF ⟨t.rules,xs4,next,time⟩=r10 at hr
  have hcl:=HZ hcf
  have hcv:=WB ⟨t.rules,xs4,next,time⟩ xs4 0 []
  unfold ZF Xq at hcf
  simp only at hcf hcl
  rw[← hcf] at hcl hr
  clear hcf
  generalize ZK ⟨t.rules,xs4,next,time⟩ xs4 0 []=x5 at hr hcl hcv
  simp only at hcl
  refine .inr ?_
  rw[LD] at hr
  have hlen:t.all.length≤32→x5.length≤32:=fun h=>by have:=h3 (by omega);omega
  generalize hf:ZV ⟨t.rules,x5,next,time⟩ time=r11 at hr
  subst hr
  rw[cO]
  have hx5:t.all.length≤32→∃ now,r11=⟨t.rules,x5.filter (fun x=>!ZG x time now),next,time⟩:=fun h=>L2 hf (by have:=hlen h;show x5.length≤64;omega)
  have hrl:r11.rules=t.rules∧r11.last=time:=by subst hf;exact⟨rfl,rfl⟩
  refine⟨rfl,hc0,rfl,hrl.1,hrl.2,fun h=>?_,fun g0 g1 g2 g3 g4=>?_⟩
  ·obtain⟨now,rfl⟩:=hx5 h
   exact bH (List.length_filter_le ..) (hlen h)
  ·obtain⟨now,rfl⟩:=hx5 g4
   obtain⟨zs,m,p1,p2,p3,p4,p5⟩:=h3b g0 (by have:=hsp.1;omega)
   simp only[aU] at p1
   obtain⟨rfl,rfl⟩:=p1
   have kr:(ids xs2).Sublist (ids t.all):=hy2.trans (ha.map _)
   obtain⟨ws,q1,q2,q3⟩:=hcv (fun y hy=>by
    rcases bD.1 hy with hy|hy
    ·exact hy3 y hy
    ·exact p2 y hy)
   rw[cO] at q1
   subst q1
   have hfs:(x5.filter (fun x=>!ZG x time now)).Sublist x5:=List.filter_sublist
   have hid:(ids (x5.filter (fun x=>!ZG x time now))).Sublist (ids (xs2++zs)):=(hfs.map _).trans q2
   have hap:ids (xs2++zs)=ids xs2++ids zs:=dD ..
   rw[hap] at hid
   have hb:∀ i∈ids xs2++ids zs,i<t.next+m:=fun i hi=>by
    rcases bD.1 hi with hi|hi
    ·have:=g3 i (kr.mem hi);omega
    ·exact(p3 i hi).2
   refine⟨fun y hy=>q3 y (hfs.mem hy),List.Pairwise.sublist hid (cY.2 ⟨List.Pairwise.sublist kr g2,p4,fun a ha b hb=>?_⟩),fun i hi=>hb i (hid.mem hi),?_,?_⟩
   ·have:=g3 a (kr.mem ha);have:=(p3 b hb).1;omega
   ·show t.next≤t.next+(m:Int);omega
   ·show t.next+(m:Int)≤t.next+32
    have:=hsp.1;omega
theorem Ol {t:Zi} {l:List Zm} {time:Int} {r:List Track×Int×Zi} (hr:Z5 t l time=r) (h:t.all.length≤32):r.2.2.all.length≤32∧r.1.length≤32:=by
 rcases RP hr with ⟨_,h1,h2⟩|⟨_,_,h1,_,_,h2,_⟩
 ·rw[h1,h2];exact⟨h,aN _⟩
 ·rw[h1,aF];exact⟨h2 h,h2 h⟩
end Go.Sky
end
section
namespace Go.Sky
open Go
structure Zw where
 (at_ speed:P)
 (height code:Int)
deriving DecidableEq
def Zw.c (x:Zw):Array Value:=#[.int .i64 x.at_.X,.int .i64 x.at_.Y,.int .i64 x.speed.X,.int .i64 x.speed.Y,.int .i64 x.height,.int .i64 x.code]
def Zw.v (x:Zw):Value:=.agg #[.int .i64 x.at_.X,.int .i64 x.at_.Y,.int .i64 x.speed.X,.int .i64 x.speed.Y,.int .i64 x.height,.int .i64 x.code]
def Zw.zero:Zw:=⟨⟨0,0⟩,⟨0,0⟩,0,0⟩
theorem Zw.one (x:Zw):x.c.toList.all Value.oneCell'=true:=rfl
end Go.Sky
end
