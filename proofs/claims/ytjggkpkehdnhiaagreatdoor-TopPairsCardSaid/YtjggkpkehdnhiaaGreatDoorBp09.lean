/- Lemmas toward the given statement (part 9 of 20): Kc Sca Fli. Each theorem states its own conditions; nothing is assumed beyond them. -/
import Derived.Test.YtjggkpkehdnhiaaGreatDoorBp08
import Derived.Test.YtjggkpkehdnhiaaGreatDoorBp02
set_option maxRecDepth 100000
section
namespace Go.Sky
open Go Go.Eng Go.Proofs
open Go.Srt Go.Glue
def ZH (t:Zi) (time:Int):List followed→Nat→(List Track)→(List followed)→(List Track×List followed)
 | [],_,qd,all=>(qd,all)
 | x::xs,k,qd,all=>let r3:=Z5 x.f time t.rules.Accel
  cond (r3.2==0) (
   ZH t time xs (k+1) (qd++([r3.1.Track])) (all++([x]))) (
   ZH t time xs (k+1) qd all)
def ZI (t:Zi) (r2:List Zj×Int) (r5:List Int×Int×Int):List followed→Nat→(List Bool)→(List followed)→(List Bool×List followed)
  | [],_,used,xs_=>(used,xs_)
  | x_2::xs,k_2,used,xs_=>YB (cond (decide ((r5.1[k_2]?.getD 0)≥0)) (
              let r6:=Yk x_2.f (r2.1[(r5.1[k_2]?.getD 0).toNat]?.getD Zj.zero) t.rules.Accel t.rules.Place t.rules.Speed
              cond (r6.2==0) (
                let r7:=QH r6.1
                ((used.set ((r5.1[k_2]?.getD 0).toNat) true),(⟨r7.1,x_2.history,true⟩:followed))) (
                (used,(⟨x_2.f,x_2.history,false⟩:followed)))) (
              (used,(⟨x_2.f,x_2.history,false⟩:followed)))) (fun (xb,x_3) =>
      cond (!x_3.hit) (
        let r8:=Xt x_3.f t.rules.Misses
        cond ((r8.2.2 != 0)||r8.2.1) (
          ZI t r2 r5 xs (k_2+1) xb xs_) (
          ZI t r2 r5 xs (k_2+1) xb (xs_++([(⟨r8.1,x_3.history,x_3.hit⟩:followed)])))) (
        ZI t r2 r5 xs (k_2+1) xb (xs_++([x_3]))))
def ZQ (zw:List Bool):List Zj→Nat→Int→(List followed)→(Int×List followed)
 | [],_,next,zf=>(next,zf)
 | x_4::xs,k_3,next,zf=>cond (((zw[k_3]?.getD false))||(decide ((zf.length:Int)≥32))) (
   ZQ zw xs (k_3+1) next zf) (
   let r9:=Y8 x_4
   ZQ zw xs (k_3+1) (w64 (next+1)) (zf++([(⟨⟨⟨next,r9.1.Track.State,r9.1.Track.Time,r9.1.Track.At,r9.1.Track.Speed,r9.1.Track.Height,r9.1.Track.Rate,r9.1.Track.Radius,r9.1.Track.Code,r9.1.Track.Hits,r9.1.Track.Misses⟩,r9.1.Slack,r9.1.Last⟩,⟨0,0⟩,true⟩:followed)])))
def YV:List followed→Nat→(List Track)→(List Track)
 | [],_,out=>out
 | x_5::xs,k_4,out=>YV xs (k_4+1) (out++([x_5.f.Track]))
def Zy (t:Zi) (l:List Zj) (time:Int):(List Track)×Int×Zi :=
 let r1:=Yf t l time
 cond (r1 != 0) (
  (([]:List Track),r1,t)) (
  let r2:=YP l 500
  YB (cond (decide (t.last≥0)) (
   YF 60000 (w64 (500+(w64 (200*(w64 (time-t.last))))))) (
   60000)) (fun qi =>
   YB (ZH t time t.all 0 ([]:List Track) ([]:List followed)) (fun (qn,zg) =>
    let r4:=XF qn r2.1 qi
    let r5:=Y5 r4.1 2147483648
    YB (ZI t r2 r5 zg 0 (List.replicate ((r2.1.length:Int).toNat) false) ([]:List followed)) (fun (zw,ja) =>
     YB (ZQ zw r2.1 0 t.next ja) (fun (zx,vq) =>
      let r10:=Z8 (⟨t.rules,vq,zx,time⟩:Zi)
      let r11:=ZR r10 time
      YB (YV r11.all 0 ([]:List Track)) (fun qk =>
       (qk,0,r11)))))))
theorem NG (t:Zi) (time:Int):∀ (xs:List followed) (k:Nat) (tr:List Track) (al:List followed),tr.length=al.length→Tr time tr →
  (ZH t time xs k tr al).1.length=(ZH t time xs k tr al).2.length∧(ZH t time xs k tr al).2.length≤al.length+xs.length∧Tr time (ZH t time xs k tr al).1
 | [],_,tr,al,h,h2=>⟨h,gW ..,h2⟩
 | x::xs,k,tr,al,h,h2=>by
  unfold ZH
  simp only
  cases hp:((Z5 x.f time t.rules.Accel).2==0) with
  | true =>
   have h0:(Z5 x.f time t.rules.Accel).2=0:=by simpa using hp
   have ih:=NG t time xs (k+1) (tr ++ [(Z5 x.f time t.rules.Accel).1.Track]) (al ++ [x]) (by simp[h]) (fun y hy=>by
    rcases bO.1 hy with hy|hy
    ·exact h2 y hy
    ·rw[bE.1 hy];exact⟨(RG h0).1,(WW h0).1⟩)
   rw[cond_true]
   exact⟨ih.1,by have:=ih.2.1;simp only[aW,aI,dQ] at this ⊢;omega,ih.2.2⟩
  | false =>
   have ih:=NG t time xs (k+1) tr al h h2
   rw[cond_false]
   exact⟨ih.1,by have:=ih.2.1;rw[aI];omega,ih.2.2⟩
theorem Dk {t:Zi} {l:List Zj} {time r1:Int} {r2:List Zj×Int} (hr1:Yf t l time=r1) (h1:(r1 != 0)=false) (hr2:YP l 500=r2):r2.1.length≤32∧Sp time r2.1∧(0≤time∧time≤200000)∧t.last<time:=by
 have h0:=G2.1 (hr1.trans (by simpa using h1))
 have:=LE h0.1 h0.2.2.2 hr2
 exact⟨by omega,this.2,h0.2.1,h0.2.2.1⟩
theorem SB {t:Zi} {time qi:Int} (ht:0≤time∧time≤200000) (hl:t.last<time) (hJ:(cond (decide (t.last≥0)) (YF 60000 (w64 (500+(w64 (200*(w64 (time-t.last))))))) 60000)=qi):0≤qi∧qi≤60000:=by
 subst hJ
 by_cases h:t.last≥0
 ·rw[decide_eq_true h,cond_true,Zt (x:=time-t.last) (by omega),Zt (x:=200*(time-t.last)) (by omega),Zt (by omega)]
  unfold YF
  split <;> omega
 ·rw[decide_eq_false h,cond_false];omega
theorem SC {t:Zi} {l:List Zj} {time r1 qi:Int} {r2:List Zj×Int} {tr:List Track} {al:List followed} {r4:List (List Int)×Int} {r5:List Int×Int×Int} (h1:(r1 != 0)=false) (hr1:Yf t l time=r1) (hr2:YP l 500=r2)
  (hJ:(cond (decide (t.last≥0)) (YF 60000 (w64 (500+(w64 (200*(w64 (time-t.last))))))) 60000)=qi) (hL:ZH t time t.all 0 [] []=(tr,al)) (h4:XF tr r2.1 qi=r4) (h5:Y5 r4.1 2147483648=r5) (hn:t.all.length≤32) :
  r5.1.length=al.length∧∀ k∈r5.1,k<(r2.1.length:Int):=by
 have hs:=Dk hr1 h1 hr2
 have hl:=NG t time t.all 0 [] [] rfl (fun _ h=>by cases h)
 rw[hL] at hl
 simp only[dQ,bY] at hl
 have:=E2 (by omega) hs.1 (SB hs.2.2.1 hs.2.2.2 hJ) hl.2.2 hs.2.1 h4 h5
 exact⟨by omega,this.2⟩
theorem Xu {l:List Int} {n:Int} {i:Nat} (h:∀ k∈l,k<n) (hi:i<l.length):l[i]?.getD 0<n:=by
 rw[aM hi];exact h _ (cQ hi)
set_option maxHeartbeats 4000000 in
theorem Kt (b_t:Nat) (t:Zi) (A_t_all:Option Addr) (qf:Nat) (A_l:Option Addr) (c_l:Nat) (l:List Zj) (time:Int) (w:World) (hM:Sat ⟨w,XR [.inl (b_t,.cells (Zi.k t A_t_all qf) 118 (0,0)),.inr (Own A_t_all qf 122 23 (t.all.map followed.c)),.inr (Own A_l c_l 42 6 (l.map Zj.c))]⟩ [.inl (b_t,.cells (Zi.k t A_t_all qf) 118 (0,0)),.inr (Own A_t_all qf 122 23 (t.all.map followed.c)),.inr (Own A_l c_l 42 6 (l.map Zj.c))] w) (hn:t.all.length≤32):Calls Tryz.prog 23 #[.pointer (some ⟨b_t,0,none⟩),.slice A_l l.length c_l,.int .i64 time] w (JH (Γ:=(Option Addr×Nat)×(Option Addr×Nat)) ⟨w,XR [.inl (b_t,.cells (Zi.k t A_t_all qf) 118 (0,0)),.inr (Own A_t_all qf 122 23 (t.all.map followed.c)),.inr (Own A_l c_l 42 6 (l.map Zj.c))]⟩ (fun g=>.tuple #[.slice g.1.1 (((Zy t l time).1).length) g.1.2,.int .i64 ((Zy t l time).2.1)]) (fun g=>[.inl (b_t,.cells (Zi.k (⟨⟨((Zy t l time).2.2).rules.Need,((Zy t l time).2.2).rules.Of,((Zy t l time).2.2).rules.Misses,((Zy t l time).2.2).rules.Accel,((Zy t l time).2.2).rules.Place,((Zy t l time).2.2).rules.Speed⟩,((Zy t l time).2.2).all,((Zy t l time).2.2).next,((Zy t l time).2.2).last⟩:Zi) g.2.1 g.2.2) 118 (0,0)),.inr (Own g.2.1 g.2.2 122 23 ((((Zy t l time).2.2).all).map followed.c)),.inr (Own A_l c_l 42 6 (l.map Zj.c)),.inr (Own g.1.1 g.1.2 40 13 (((Zy t l time).1).map Track.c))])):=by
 refine YS (w0:=⟨w,XR [Bk b_t (Zi.k t A_t_all qf) 118,Ow A_t_all qf 122 23 (t.all.map followed.c),Ow A_l c_l 42 6 (l.map Zj.c)]⟩) (vs:=[.p0 b_t,.slice A_l l.length c_l,.i time]) hM Tryz.func23 rfl Tryz.ntmps23 rfl (Gn (fun w hM=>hM.short_at 1 rfl) (fun kp=>Gn (fun w hM=>hM.short_at 2 rfl) (fun s_l=>Zf (Zc 2 [] [(6,.slice none 0 0),(7,.i 0)] {} (Z1 (Zf (Zc 3 [] [(39,.p0 b_t),(40,.slice A_l l.length c_l),(41,.i time)] {} (TL.c 42 (Yf t l time) (fun r1=>.i r1) (fun w hM=>UE ⟨b_t,0,none⟩ t A_t_all qf A_l c_l l time w (Rd.lit hM 0 _ rfl Kr Kr Kr) (hM.rd_at 1 rfl) (hM.le_at 1 rfl) (hM.rd_at 2 rfl) (hM.le_at 2 rfl)) {} (fun r1 hr1=>Zc 5 [] [(8,.i r1)] {} (Zz (Zc 2 [] [(44,.b (r1 != 0))] {} (Zb rfl (TC.cond (r1 != 0) rfl Kr (fun h1=>?_) (fun h1=>?_))))))))))))))
 ·refine Zf (Zc 3 [] [(6,.slice none 0 0),(7,.i r1)] {} (Zb rfl (TC.ret (Zo (Yi [Ow none 0 40 13 (([]:List Track).map Track.c),Bk b_t (Zi.k t A_t_all qf) 118,Ow A_t_all qf 122 23 (t.all.map followed.c),Ow A_l c_l 42 6 (l.map Zj.c)] (fun _ hM=>hM.emptyrow none 40 13) ?_)))))
  have e:Zy t l time=(([]:List Track),r1,t):=by subst hr1;unfold Zy;exact Zm h1 (rfl)
  refine Yi [Bk b_t (Zi.k t A_t_all qf) 118,Ow A_t_all qf 122 23 (t.all.map followed.c),Ow A_l c_l 42 6 (l.map Zj.c),Ow none 0 40 13 (([]:List Track).map Track.c)] (fun _ hM=>hM.perm (px [1,2,3,0])) ?_
  rw[e]
  exact ZO (.inl rfl) ((none,0),(A_t_all,qf)) [] (.tuple #[.slice none (([]:List Track).length) 0,.i r1]) {} rfl (fun _ hM=>hM.sub (sb 15))
 ·have vm:=(QA h1)
  refine Yc (Zc 1 [] [(47,.slice A_l l.length c_l)] {} (VI (Γ:=AN) 48 (YP l 500) (fun r2 g=>.tuple #[.slice g.1 r2.1.length g.2,.i r2.2]) (fun r2 g=>[Ow g.1 g.2 42 6 (r2.1.map Zj.c)]) (fun w hM=>N8 A_l c_l l 500 w (hM.rd_at 2 rfl) (hM.le_at 2 rfl)) {} (fun r2 hr2=>?_)))
  have ks_:=(Dk hr1 h1 hr2).1
  rintro⟨A,c⟩
  refine Y3 (fun w hM=>hM.short_at 0 rfl) (fun ni=>Zc 7 [] [(9,.slice A r2.1.length c)] {} (Zz (Zc 1 [] [(11,.i 60000)] {} (Z1 (Zf (Zc 5 [1] [(55,.b (decide (t.last≥0)))] {} (Zb rfl ?_)))))))
  refine TC.cut (S:=Int) (fun qi=>[(0,.p0 b_t),(2,.i time),(9,.slice A r2.1.length c),(11,.i qi)]) (fun qi=>[Ow A c 42 6 (r2.1.map Zj.c),Bk b_t (Zi.k t A_t_all qf) 118,Ow A_t_all qf 122 23 (t.all.map followed.c),Ow A_l c_l 42 6 (l.map Zj.c)]) (fun qi=>(cond (decide (t.last≥0)) (
   YF 60000 (w64 (500+(w64 (200*(w64 (time-t.last))))))) (
   60000))=qi) ?_ ?_
  ·refine TC.cond (decide (t.last≥0)) rfl Kr (fun h2=>?_) (fun h2=>?_)
   ·exact TC.region (Zc 11 [1] [(11,.i (YF 60000 (w64 (500+(w64 (200*(w64 (time-t.last))))))))] {} (Zw rfl (TE.cut (YF 60000 (w64 (500+(w64 (200*(w64 (time-t.last))))))) (by subst hr1 hr2;exact Zm h2 (rfl)) Kr (sb 15))))
   ·exact TC.skip (TE.cut 60000 (by subst hr1 hr2;exact Ze h2 (rfl)) Kr (sb 15))
  ·rintro qi hJ
   refine YC (Zc 4 [] [(67,.i time),(69,.pt b_t 8)] {} (Yp 1 (Bk b_t (Zi.k (⟨t.rules,t.all,t.next,time⟩:Zi) A_t_all qf) 118) (fun _=>{}) (Zz (Zc 1 [] [(12,.slice none 0 0)] {} (Zz (Zc 1 [] [(13,.slice none 0 0)] {} (Z1 (Zf (Zc 6 [1] [(73,.slice A_t_all t.all.length qf),(74,.i (t.all.length:Int)),(75,.i 0)] {} (Zb rfl (Q0 [Ow none 0 40 13 (([]:List Track).map Track.c),Ow A c 42 6 (r2.1.map Zj.c),Bk b_t (Zi.k (⟨t.rules,t.all,t.next,time⟩:Zi) A_t_all qf) 118,Ow A_t_all qf 122 23 (t.all.map followed.c),Ow A_l c_l 42 6 (l.map Zj.c)] (fun _ hM=>hM.emptyrow none 40 13) (Q0 [Ow none 0 122 23 (([]:List followed).map followed.c),Ow none 0 40 13 (([]:List Track).map Track.c),Ow A c 42 6 (r2.1.map Zj.c),Bk b_t (Zi.k (⟨t.rules,t.all,t.next,time⟩:Zi) A_t_all qf) 118,Ow A_t_all qf 122 23 (t.all.map followed.c),Ow A_l c_l 42 6 (l.map Zj.c)] (fun _ hM=>hM.emptyrow none 122 23) ?_))))))))))))
   obtain⟨R4,hR⟩:∃ R,R=ZH t time t.all 0 ([]:List Track) ([]:List followed):=⟨_,rfl⟩
   refine TC.cut (S:=(List Track)×(List followed)×(Option Addr)×Nat×(Option Addr)×Nat) (fun (qn,zg,A_tracks_2,q7,A_all_2,zh)=>[(0,.p0 b_t),(2,.i time),(9,.slice A r2.1.length c),(11,.i qi),(12,.slice A_tracks_2 qn.length q7),(13,.slice A_all_2 zg.length zh)]) (fun (qn,zg,A_tracks_2,q7,A_all_2,zh)=>[Ow A_all_2 zh 122 23 (zg.map followed.c),Ow A_tracks_2 q7 40 13 (qn.map Track.c),Ow A c 42 6 (r2.1.map Zj.c),Bk b_t (Zi.k (⟨t.rules,t.all,t.next,time⟩:Zi) A_t_all qf) 118,Ow A_t_all qf 122 23 (t.all.map followed.c),Ow A_l c_l 42 6 (l.map Zj.c)]) (fun (qn,zg,A_tracks_2,q7,A_all_2,zh)=>R4=(qn,zg)∧qn.length≤t.all.length∧zg.length≤t.all.length) ?_ ?_
   ·refine TC.block (Xp (X:=Nat×(List Track)×(List followed)×(Option Addr)×Nat×(Option Addr)×Nat) (fun (k,qd,all,A_tracks,qp,A_all,jg)=>[(0,.p0 b_t),(2,.i time),(9,.slice A r2.1.length c),(11,.i qi),(12,.slice A_tracks qd.length qp),(13,.slice A_all all.length jg),(73,.slice A_t_all t.all.length qf),(74,.i (t.all.length:Int)),(75,.i (k:Int))]) (fun (k,qd,all,A_tracks,qp,A_all,jg)=>[Ow A_all jg 122 23 (all.map followed.c),Ow A_tracks qp 40 13 (qd.map Track.c),Ow A c 42 6 (r2.1.map Zj.c),Bk b_t (Zi.k (⟨t.rules,t.all,t.next,time⟩:Zi) A_t_all qf) 118,Ow A_t_all qf 122 23 (t.all.map followed.c),Ow A_l c_l 42 6 (l.map Zj.c)]) (fun (k,qd,all,A_tracks,qp,A_all,jg)=>t.all.length-k) (fun (k,qd,all,A_tracks,qp,A_all,jg)=>k≤t.all.length∧R4=ZH t time (t.all.drop k) k qd all∧qd.length≤k∧all.length≤k) ?_ (0,([]:List Track),([]:List followed),none,0,none,0) ⟨aP _,hR,sz,sz⟩ Kr (sb 63))
    rintro⟨k,qd,all,A_tracks,qp,A_all,jg⟩ ⟨hk,hI,dh,hl_all⟩
    refine Zf (Zc 1 [] [(76,.b (decide ((k:Int)<(t.all.length:Int))))] {} (Z1 (TC.cond (decide ((k:Int)<(t.all.length:Int))) rfl Kr (fun h3=>?_) (fun h3=>?_))))
    ·have hlt:=ltN h3
     obtain⟨x,hx⟩:=elN hlt
     have hd:=drop_at hx
     refine Yg (TC.seq (TC.block (Zf (TL.v (sV (Instr.indexAt 116 (.slice A_t_all t.all.length qf) (.i (k:Int)))) 77 (.pointer (some (Ix A_t_all (k*23)))) (fun w hM=>Zr (hM.rd_at 4 rfl) (by simp) Kr (by (try have kx_:=Xu kb_.2 (show k_2<_ by omega));exact sd) (by (try have kx_:=Xu kb_.2 (show k_2<_ by omega));exact sd)) {} (TL.v (sV (Instr.loadAt 122 (.pointer (some (Ix A_t_all (k*23)))))) 78 (followed.v x) (fun w hM=>Z9 (n:=23) (off:=0) (i:=k) (followed.v x) (hM.rd_at 4 rfl) (Z6 hx) Kr Kr Kr) {} (ZA 15 (fun b1=>.p0 b1) (fun b1=>Bk b1 (followed.c followed.zero) 122) (fun b1=>{}) (fun b1=>Yp 0 (Bk b1 (followed.c x) 122) (fun _=>{}) (Z1 ?_))))))))
     obtain⟨r3,hr3⟩:∃ r,Z5 x.f time t.rules.Accel=r:=⟨_,rfl⟩
     let Mr14_:Mem:=[Bk b1 (followed.c x) 122,Ow A_all jg 122 23 (all.map followed.c),Ow A_tracks qp 40 13 (qd.map Track.c),Ow A c 42 6 (r2.1.map Zj.c),Bk b_t (Zi.k (⟨t.rules,t.all,t.next,time⟩:Zi) A_t_all qf) 118,Ow A_t_all qf 122 23 (t.all.map followed.c),Ow A_l c_l 42 6 (l.map Zj.c)]
     refine Jm (G:=Nat) (base:=[(0,.p0 b_t),(2,.i time),(9,.slice A r2.1.length c),(11,.i qi),(12,.slice A_tracks qd.length qp),(13,.slice A_all all.length jg),(15,.p0 b1),(73,.slice A_t_all t.all.length qf),(74,.i (t.all.length:Int)),(75,.i (k:Int))]) (vals:=fun γ=>[.p0 b1,Za.v x.f,.i time,.p0 b_t,.p0 b_t,.p0 b_t,.pt b_t 3,.i t.rules.Accel,.tuple #[Za.v r3.1,.i r3.2],.tuple #[Za.v r3.1,.i r3.2],Za.v r3.1,.i r3.2,.p0 γ,undef,.i r3.2]) (writes:=[12,13]) (mem:=fun bs γ=>match bs with | [y5,x13_]=>(bif x13_ then [Bk γ (Za.c r3.1) 44] else bif y5 then [Bk γ (Za.c Za.zero) 44] else [])++(Mr14_)|_=>[]) (0) (fun γ=>[(0,.p0 b_t),(2,.i time),(9,.slice A r2.1.length c),(11,.i qi),(12,.slice A_tracks qd.length qp),(13,.slice A_all all.length jg),(15,.p0 b1),(16,.p0 γ),(17,.i r3.2),(73,.slice A_t_all t.all.length qf),(74,.i (t.all.length:Int)),(75,.i (k:Int))]) Kr Kr Kr Kr Kr (fun γ=>Kr) (fun _ hM=>hM) (fun γ=>Kr) ?_ ?_
     ·skip
      exact Steps.run (i:=0) 8 [0,0,0,0,0,0,0,4] Mr14_ Kr Kr (fun S (γ:Nat) w hM=>by rw[mS2 rfl rfl] at hM;exact hM.sub (Zl (aB _))) Kr (fun (γ:Nat)=>{}) (Steps.call (i:=8) 45 (fun (γ:Nat)=>#[Za.v x.f,.i time,.i t.rules.Accel]) (some 88) (fun (γ:Nat)=>.tuple #[Za.v r3.1,.i r3.2]) (fun (γ:Nat)=>[Bk b1 (followed.c x) 122,Ow A_all jg 122 23 (all.map followed.c),Ow A_tracks qp 40 13 (qd.map Track.c),Ow A c 42 6 (r2.1.map Zj.c),Bk b_t (Zi.k (⟨t.rules,t.all,t.next,time⟩:Zi) A_t_all qf) 118,Ow A_t_all qf 122 23 (t.all.map followed.c),Ow A_l c_l 42 6 (l.map Zj.c)]) Kr (fun S (γ:Nat) w _ hM=>by rw[mS2 rfl rfl] at hM;exact hM.sub (Zl (aB _))) (fun (γ:Nat) w _=>by have h:=Vy x.f time t.rules.Accel w;rw[hr3] at h;exact h) (fun (γ:Nat)=>Kr) (fun (γ:Nat)=>Kr) (Steps.run (i:=9) 12 [0,0,0] Mr14_ Kr Kr (fun S (γ:Nat) w hM=>by rw[mS2 rfl rfl] at hM;exact hM.sub (Zl (aB _))) Kr (fun (γ:Nat)=>{}) (Steps.op (i:=12) (Γ:=Nat) (fun g (γ:Nat)=>g) (fun _=>[]) (fun b (γ:Nat)=>[Bk b (Za.c Za.zero) 44]) (fun S (γ:Nat)=>Mr14_) [12,13,14] (fun (γ:Nat)=>sV (Instr.alloc 44 true (.tuple #[]))) (some 16) (fun b (γ:Nat)=>.p0 b) (fun S (γ:Nat) hj hd hl=>by rw[mS2 hj (hl 13 Kr)];exact aC _) (fun S (γ:Nat) g hl=>by rw[mS2 (S:=upS S 12) (a0:=12) (a1:=13) rfl (hl 13 Kr)];exact(aC _).symm) (fun (γ:Nat) M' w hM=>Q4 (v:=fun b=>.p0 b) (fun b M=>Kr) M' w hM) (fun (γ:Nat)=>Kr) (fun (γ:Nat) g=>Kr) Kr (fun (γ:Nat) g=>Kr) (Steps.put (i:=13) (fun (γ:Nat)=>[Bk γ (Za.c Za.zero) 44]) (fun (γ:Nat)=>[Bk γ (Za.c r3.1) 44]) (fun S (γ:Nat)=>Mr14_) (fun (γ:Nat)=>sU (Instr.storeAt 44 (.p0 γ) (Za.v r3.1))) none (fun S (γ:Nat) hj hd hl=>by rw[mS2 (hd 12 Kr) hj];exact aC _) (fun S (γ:Nat) _=>(aC _).symm) (fun (γ:Nat) M' w hM=>JB (fun b M=>Kr) (fun b M=>Kr) M' w hM) (fun (γ:Nat)=>Kr) (fun (γ:Nat)=>Kr) (Steps.run (i:=14) 15 [0] Mr14_ Kr Kr (fun S (γ:Nat) w hM=>by rw[mS2 rfl rfl] at hM;exact hM.sub (Zl (aB _))) Kr (fun (γ:Nat)=>{}) (X6 Kr))))))
     ·rintro b2
      refine Yi [Bk b2 (Za.c r3.1) 44,Bk b1 (followed.c x) 122,Ow A_all jg 122 23 (all.map followed.c),Ow A_tracks qp 40 13 (qd.map Track.c),Ow A c 42 6 (r2.1.map Zj.c),Bk b_t (Zi.k (⟨t.rules,t.all,t.next,time⟩:Zi) A_t_all qf) 118,Ow A_t_all qf 122 23 (t.all.map followed.c),Ow A_l c_l 42 6 (l.map Zj.c)] (fun _ hM=>hM) (YC (Zc 2 [] [(92,.b (r3.2==0))] {} (Zb rfl (TC.cond (r3.2==0) rfl Kr (fun h4=>?_) (fun h4=>?_)))))
      ·have yq:=(YT h4)
       let Mr16_:Mem:=[Bk b2 (Za.c r3.1) 44,Bk b1 (followed.c x) 122,Ow A c 42 6 (r2.1.map Zj.c),Bk b_t (Zi.k (⟨t.rules,t.all,t.next,time⟩:Zi) A_t_all qf) 118,Ow A_t_all qf 122 23 (t.all.map followed.c),Ow A_l c_l 42 6 (l.map Zj.c)]
       refine Jm (G:=Nat×AN×Nat×AN) (base:=[(0,.p0 b_t),(2,.i time),(9,.slice A r2.1.length c),(11,.i qi),(12,.slice A_tracks qd.length qp),(13,.slice A_all all.length jg),(15,.p0 b1),(16,.p0 b2),(73,.slice A_t_all t.all.length qf),(74,.i (t.all.length:Int)),(75,.i (k:Int))]) (vals:=fun γ=>[.slice A_tracks qd.length qp,.p0 b2,Track.v r3.1.Track,.slice (Pa γ.1) 1 1,.slice (γ.2.1.1) ((qd++([r3.1.Track])).length) (γ.2.1.2),.slice A_all all.length jg,followed.v x,.slice (Pa γ.2.2.1) 1 1,.slice (γ.2.2.2.1) ((all++([x])).length) (γ.2.2.2.2),.slice (γ.2.1.1) ((qd++([r3.1.Track])).length) (γ.2.1.2),.slice (γ.2.2.2.1) ((all++([x])).length) (γ.2.2.2.2)]) (writes:=[3,4,7,8]) (mem:=fun bs γ=>match bs with | [x3_,x4_,x7_,x8_]=>(bif x3_ then [Bk γ.1 (Track.c r3.1.Track) 40] else [])++((bif x4_ then [Ow (γ.2.1.1) (γ.2.1.2) 40 13 ((qd++([r3.1.Track])).map Track.c)] else [Ow A_tracks qp 40 13 (qd.map Track.c)])++((bif x7_ then [Bk γ.2.2.1 (followed.c x) 122] else [])++((bif x8_ then [Ow (γ.2.2.2.1) (γ.2.2.2.2) 122 23 ((all++([x])).map followed.c)] else [Ow A_all jg 122 23 (all.map followed.c)])++(Mr16_))))|_=>[]) (0,(none,0),0,(none,0)) (fun γ=>[(0,.p0 b_t),(2,.i time),(9,.slice A r2.1.length c),(11,.i qi),(12,.slice (γ.2.1.1) ((qd++([r3.1.Track])).length) (γ.2.1.2)),(13,.slice (γ.2.2.2.1) ((all++([x])).length) (γ.2.2.2.2)),(73,.slice A_t_all t.all.length qf),(74,.i (t.all.length:Int)),(75,.i (k:Int))]) Kr Kr Kr Kr Kr (fun γ=>Kr) (fun _ hM=>hM.perm (px [3,2,0,1,4,5,6,7])) (fun γ=>Kr) ?_ ?_
       ·skip
        exact Steps.run (i:=0) 3 [0,0,0] Mr16_ Kr Kr (fun S (γ:Nat×AN×Nat×AN) w hM=>by rw[mS4 rfl rfl rfl rfl] at hM;exact hM.sub (Zl (Zl (Zl (Zl (aB _)))))) Kr (fun (γ:Nat×AN×Nat×AN)=>{}) (Steps.op (i:=3) (Γ:=Nat) (fun g (γ:Nat×AN×Nat×AN)=>(g,γ.2.1,γ.2.2.1,γ.2.2.2)) (fun _=>[]) (fun b (γ:Nat×AN×Nat×AN)=>[Bk b (Track.c r3.1.Track) 40]) (fun S (γ:Nat×AN×Nat×AN)=>(bif S 4 then [Ow (γ.2.1.1) (γ.2.1.2) 40 13 ((qd++([r3.1.Track])).map Track.c)] else [Ow A_tracks qp 40 13 (qd.map Track.c)])++((bif S 7 then [Bk γ.2.2.1 (followed.c x) 122] else [])++((bif S 8 then [Ow (γ.2.2.2.1) (γ.2.2.2.2) 122 23 ((all++([x])).map followed.c)] else [Ow A_all jg 122 23 (all.map followed.c)])++(Mr16_)))) [3,4,8,9,10] (fun (γ:Nat×AN×Nat×AN)=>sV (Instr.buildSlice 57 1 #[(0,Track.v r3.1.Track)])) (some 96) (fun b (γ:Nat×AN×Nat×AN)=>.slice (Pa b) 1 1) (fun S (γ:Nat×AN×Nat×AN) hj hd hl=>by rw[mS4 hj rfl rfl rfl];exact aC _) (fun S (γ:Nat×AN×Nat×AN) g _=>(aC _).symm) (fun (γ:Nat×AN×Nat×AN) M' w hM=>Q4 (v:=fun b=>.slice (Pa b) 1 1) (fun b M=>Kr) M' w hM) (fun (γ:Nat×AN×Nat×AN)=>Kr) (fun (γ:Nat×AN×Nat×AN) g=>Kr) Kr (fun (γ:Nat×AN×Nat×AN) g=>Kr) (Vi (i:=4) (Γ:=AN) (fun g (γ:Nat×AN×Nat×AN)=>(γ.1,g,γ.2.2.1,γ.2.2.2)) (fun (γ:Nat×AN×Nat×AN)=>[Ow A_tracks qp 40 13 (qd.map Track.c),Bk γ.1 (Track.c r3.1.Track) 40]) (fun g (γ:Nat×AN×Nat×AN)=>[Ow (g.1) (g.2) 40 13 ((qd++([r3.1.Track])).map Track.c),Bk γ.1 (Track.c r3.1.Track) 40]) (fun S (γ:Nat×AN×Nat×AN)=>(bif S 7 then [Bk γ.2.2.1 (followed.c x) 122] else [])++((bif S 8 then [Ow (γ.2.2.2.1) (γ.2.2.2.2) 122 23 ((all++([x])).map followed.c)] else [Ow A_all jg 122 23 (all.map followed.c)])++(Mr16_))) [4,8,9,10] (fun (γ:Nat×AN×Nat×AN)=>sV (Builtin.append_ #[57,57] 57 #[.slice A_tracks qd.length qp,.slice (Pa γ.1) 1 1])) (some 97) (fun g (γ:Nat×AN×Nat×AN)=>.slice (g.1) ((qd++([r3.1.Track])).length) (g.2)) (fun S (γ:Nat×AN×Nat×AN) hj hd hl=>by change List.Perm (((bif S 3 then [Bk γ.1 (Track.c r3.1.Track) 40] else [])++((bif S 4 then [Ow (γ.2.1.1) (γ.2.1.2) 40 13 ((qd++([r3.1.Track])).map Track.c)] else [Ow A_tracks qp 40 13 (qd.map Track.c)])++((bif S 7 then [Bk γ.2.2.1 (followed.c x) 122] else [])++((bif S 8 then [Ow (γ.2.2.2.1) (γ.2.2.2.2) 122 23 ((all++([x])).map followed.c)] else [Ow A_all jg 122 23 (all.map followed.c)])++(Mr16_))))):Mem) _;rw[hj,hd 3 Kr];exact((aA _ (aC _)).trans (ZC _ _ _)).trans (aA _ ((aC _).trans (aA _ (aC _))))) (fun S (γ:Nat×AN×Nat×AN) g _ hd hl=>by change List.Perm ([Ow (g.1) (g.2) 40 13 ((qd++([r3.1.Track])).map Track.c)]++([Bk γ.1 (Track.c r3.1.Track) 40]++((bif S 7 then [Bk γ.2.2.1 (followed.c x) 122] else [])++((bif S 8 then [Ow (γ.2.2.2.1) (γ.2.2.2.2) 122 23 ((all++([x])).map followed.c)] else [Ow A_all jg 122 23 (all.map followed.c)])++(Mr16_))))) (((bif S 3 then [Bk γ.1 (Track.c r3.1.Track) 40] else [])++((bif true then [Ow (g.1) (g.2) 40 13 ((qd++([r3.1.Track])).map Track.c)] else [Ow A_tracks qp 40 13 (qd.map Track.c)])++((bif S 7 then [Bk γ.2.2.1 (followed.c x) 122] else [])++((bif S 8 then [Ow (γ.2.2.2.1) (γ.2.2.2.2) 122 23 ((all++([x])).map followed.c)] else [Ow A_all jg 122 23 (all.map followed.c)])++(Mr16_))))):Mem);rw[hd 3 Kr];exact(((aA _ (aC _)).trans (ZC _ _ _)).trans (aA _ ((aC _).trans (aA _ (aC _))))).symm) (fun (γ:Nat×AN×Nat×AN) M' w hM=>QE (bytes:=104) 57 0 ([r3.1.Track]) Kr rfl rfl Track.one rfl (fun w hM=>(Rd.lit hM 1 _ rfl Kr Kr Kr)) rfl (by (try have kx_:=Xu kb_.2 (show k_2<_ by omega));exact sa) w hM) (fun (γ:Nat×AN×Nat×AN)=>Kr) (fun (γ:Nat×AN×Nat×AN) g=>Kr) Kr (fun (γ:Nat×AN×Nat×AN) g=>Kr) (Steps.run (i:=5) 7 [0,1] Mr16_ Kr Kr (fun S (γ:Nat×AN×Nat×AN) w hM=>by rw[mS4 rfl rfl rfl rfl] at hM;exact hM.sub (Zl (Zl (Zl (Zl (aB _)))))) Kr (fun (γ:Nat×AN×Nat×AN)=>{}) (Steps.op (i:=7) (Γ:=Nat) (fun g (γ:Nat×AN×Nat×AN)=>(γ.1,γ.2.1,g,γ.2.2.2)) (fun _=>[]) (fun b (γ:Nat×AN×Nat×AN)=>[Bk b (followed.c x) 122]) (fun S (γ:Nat×AN×Nat×AN)=>(bif S 3 then [Bk γ.1 (Track.c r3.1.Track) 40] else [])++((bif S 4 then [Ow (γ.2.1.1) (γ.2.1.2) 40 13 ((qd++([r3.1.Track])).map Track.c)] else [Ow A_tracks qp 40 13 (qd.map Track.c)])++((bif S 8 then [Ow (γ.2.2.2.1) (γ.2.2.2.2) 122 23 ((all++([x])).map followed.c)] else [Ow A_all jg 122 23 (all.map followed.c)])++(Mr16_)))) [7,8,9,10] (fun (γ:Nat×AN×Nat×AN)=>sV (Instr.buildSlice 116 1 #[(0,followed.v x)])) (some 100) (fun b (γ:Nat×AN×Nat×AN)=>.slice (Pa b) 1 1) (fun S (γ:Nat×AN×Nat×AN) hj hd hl=>by rw[mS4 rfl rfl hj rfl];exact(aA _ ((aA _ (aC _)).trans (ZC _ _ _))).trans (ZC _ _ _)) (fun S (γ:Nat×AN×Nat×AN) g _=>((aA _ ((aA _ (aC _)).trans (ZC _ _ _))).trans (ZC _ _ _)).symm) (fun (γ:Nat×AN×Nat×AN) M' w hM=>Q4 (v:=fun b=>.slice (Pa b) 1 1) (fun b M=>Kr) M' w hM) (fun (γ:Nat×AN×Nat×AN)=>Kr) (fun (γ:Nat×AN×Nat×AN) g=>Kr) Kr (fun (γ:Nat×AN×Nat×AN) g=>Kr) (Vi (i:=8) (Γ:=AN) (fun g (γ:Nat×AN×Nat×AN)=>(γ.1,γ.2.1,γ.2.2.1,g)) (fun (γ:Nat×AN×Nat×AN)=>[Ow A_all jg 122 23 (all.map followed.c),Bk γ.2.2.1 (followed.c x) 122]) (fun g (γ:Nat×AN×Nat×AN)=>[Ow (g.1) (g.2) 122 23 ((all++([x])).map followed.c),Bk γ.2.2.1 (followed.c x) 122]) (fun S (γ:Nat×AN×Nat×AN)=>(bif S 3 then [Bk γ.1 (Track.c r3.1.Track) 40] else [])++((bif S 4 then [Ow (γ.2.1.1) (γ.2.1.2) 40 13 ((qd++([r3.1.Track])).map Track.c)] else [Ow A_tracks qp 40 13 (qd.map Track.c)])++(Mr16_))) [8,9,10] (fun (γ:Nat×AN×Nat×AN)=>sV (Builtin.append_ #[116,116] 116 #[.slice A_all all.length jg,.slice (Pa γ.2.2.1) 1 1])) (some 101) (fun g (γ:Nat×AN×Nat×AN)=>.slice (g.1) ((all++([x])).length) (g.2)) (fun S (γ:Nat×AN×Nat×AN) hj hd hl=>by change List.Perm (((bif S 3 then [Bk γ.1 (Track.c r3.1.Track) 40] else [])++((bif S 4 then [Ow (γ.2.1.1) (γ.2.1.2) 40 13 ((qd++([r3.1.Track])).map Track.c)] else [Ow A_tracks qp 40 13 (qd.map Track.c)])++((bif S 7 then [Bk γ.2.2.1 (followed.c x) 122] else [])++((bif S 8 then [Ow (γ.2.2.2.1) (γ.2.2.2.2) 122 23 ((all++([x])).map followed.c)] else [Ow A_all jg 122 23 (all.map followed.c)])++(Mr16_))))):Mem) _;rw[hj,hd 7 Kr];exact((aA _ ((aA _ ((aA _ (aC _)).trans (ZC _ _ _))).trans (ZC _ _ _))).trans (ZC _ _ _)).trans (aA _ (((aA _ ((aA _ (aC _)).trans (ZC _ _ _))).trans (ZC _ _ _)).trans (aA _ (aC _))))) (fun S (γ:Nat×AN×Nat×AN) g _ hd hl=>by change List.Perm ([Ow (g.1) (g.2) 122 23 ((all++([x])).map followed.c)]++([Bk γ.2.2.1 (followed.c x) 122]++((bif S 3 then [Bk γ.1 (Track.c r3.1.Track) 40] else [])++((bif S 4 then [Ow (γ.2.1.1) (γ.2.1.2) 40 13 ((qd++([r3.1.Track])).map Track.c)] else [Ow A_tracks qp 40 13 (qd.map Track.c)])++(Mr16_))))) (((bif S 3 then [Bk γ.1 (Track.c r3.1.Track) 40] else [])++((bif S 4 then [Ow (γ.2.1.1) (γ.2.1.2) 40 13 ((qd++([r3.1.Track])).map Track.c)] else [Ow A_tracks qp 40 13 (qd.map Track.c)])++((bif S 7 then [Bk γ.2.2.1 (followed.c x) 122] else [])++((bif true then [Ow (g.1) (g.2) 122 23 ((all++([x])).map followed.c)] else [Ow A_all jg 122 23 (all.map followed.c)])++(Mr16_))))):Mem);rw[hd 7 Kr];exact(((aA _ ((aA _ ((aA _ (aC _)).trans (ZC _ _ _))).trans (ZC _ _ _))).trans (ZC _ _ _)).trans (aA _ (((aA _ ((aA _ (aC _)).trans (ZC _ _ _))).trans (ZC _ _ _)).trans (aA _ (aC _))))).symm) (fun (γ:Nat×AN×Nat×AN) M' w hM=>QE (bytes:=184) 116 0 ([x]) Kr rfl rfl followed.one rfl (fun w hM=>(Rd.lit hM 1 _ rfl Kr Kr Kr)) rfl (by (try have kx_:=Xu kb_.2 (show k_2<_ by omega));exact sa) w hM) (fun (γ:Nat×AN×Nat×AN)=>Kr) (fun (γ:Nat×AN×Nat×AN) g=>Kr) Kr (fun (γ:Nat×AN×Nat×AN) g=>Kr) (Steps.run (i:=9) 11 [0,0] Mr16_ Kr Kr (fun S (γ:Nat×AN×Nat×AN) w hM=>by rw[mS4 rfl rfl rfl rfl] at hM;exact hM.sub (Zl (Zl (Zl (Zl (aB _)))))) Kr (fun (γ:Nat×AN×Nat×AN)=>{}) (X6 Kr)))))))
       ·rintro⟨b3,⟨A_2,c_2⟩,b4,⟨A_3,c_3⟩⟩
        exact Yi [Bk b3 (Track.c r3.1.Track) 40,Ow A_2 c_2 40 13 ((qd++([r3.1.Track])).map Track.c),Bk b4 (followed.c x) 122,Ow A_3 c_3 122 23 ((all++([x])).map followed.c),Bk b2 (Za.c r3.1) 44,Bk b1 (followed.c x) 122,Ow A c 42 6 (r2.1.map Zj.c),Bk b_t (Zi.k (⟨t.rules,t.all,t.next,time⟩:Zi) A_t_all qf) 118,Ow A_t_all qf 122 23 (t.all.map followed.c),Ow A_l c_l 42 6 (l.map Zj.c)] (fun _ hM=>hM) (ZY (Z3 (TC.region (Zc 2 [] [(75,.i (w64 ((k:Int)+1)))] {} (Zw rfl (Yi [Ow A_3 c_3 122 23 ((all++([x])).map followed.c),Ow A_2 c_2 40 13 ((qd++([r3.1.Track])).map Track.c),Ow A c 42 6 (r2.1.map Zj.c),Bk b_t (Zi.k (⟨t.rules,t.all,t.next,time⟩:Zi) A_t_all qf) 118,Ow A_t_all qf 122 23 (t.all.map followed.c),Ow A_l c_l 42 6 (l.map Zj.c),Bk b3 (Track.c r3.1.Track) 40,Bk b4 (followed.c x) 122,Bk b2 (Za.c r3.1) 44,Bk b1 (followed.c x) 122] (fun _ hM=>hM.perm (px [3,1,6,7,8,9,0,2,4,5])) (TE.rw 75 (.i (w64 ((k:Int)+1))) (.i ((k+1:Nat):Int)) Kr (ZD k (by (try have kx_:=Xu kb_.2 (show k_2<_ by omega));omega)) (Z4 (x:=(k,qd,all,A_tracks,qp,A_all,jg)) (k+1,(qd++([r3.1.Track])),(all++([x])),A_2,c_2,A_3,c_3) ⟨by omega,hI.trans (by subst hr1 hr2 hr3;rw[hd];exact Zm h4 (rfl)),(by (try have kx_:=Xu kb_.2 (show k_2<_ by omega));exact sl),(by (try have kx_:=Xu kb_.2 (show k_2<_ by omega));exact sl)⟩ (mN hlt) Kr (sb 63)))))))))
      ·have yq:=(Yl h4)
       exact TC.skip (ZY (Z3 (TC.region (Zc 2 [] [(75,.i (w64 ((k:Int)+1)))] {} (Zw rfl (TE.rw 75 (.i (w64 ((k:Int)+1))) (.i ((k+1:Nat):Int)) Kr (ZD k (by (try have kx_:=Xu kb_.2 (show k_2<_ by omega));omega)) (Z4 (x:=(k,qd,all,A_tracks,qp,A_all,jg)) (k+1,qd,all,A_tracks,qp,A_all,jg) ⟨by omega,hI.trans (by subst hr1 hr2 hr3;rw[hd];exact Ze h4 (rfl)),(by (try have kx_:=Xu kb_.2 (show k_2<_ by omega));exact sl),(by (try have kx_:=Xu kb_.2 (show k_2<_ by omega));exact sl)⟩ (mN hlt) Kr (sb 252))))))))
    ·have hd:=Qb h3
     refine TC.exit (ZT (ZT (Z0 ?_)))
     exact TE.cut (qd,all,A_tracks,qp,A_all,jg) (⟨hI.trans (by subst hr1 hr2;rw[hd];exact rfl),(by (try have kx_:=Xu kb_.2 (show k_2<_ by omega));exact sl),(by (try have kx_:=Xu kb_.2 (show k_2<_ by omega));exact sl)⟩) Kr (sb 63)
   ·rintro⟨qn,zg,A_tracks_2,q7,A_all_2,zh⟩ ⟨jv,fa,ir⟩
    refine YC (Zc 3 [] [(104,.slice A_tracks_2 qn.length q7),(105,.slice A r2.1.length c),(106,.i qi)] {} (VI (Γ:=(AN×List (Sl Int))) 107 (XF qn r2.1 qi) (fun r4 g=>.tuple #[.slice g.1.1 r4.1.length g.1.2,.i r4.2]) (fun r4 g=>[.inr (Qm (r4.1=g.2.map Sl.l)),Ow g.1.1 g.1.2 22 1 (g.2.map Sl.c),.inr (Bag 3 1 ic g.2)]) (fun w hM=>N9 A_tracks_2 q7 qn A c r2.1 qi w (hM.rd_at 1 rfl) (hM.le_at 1 rfl) (hM.rd_at 2 rfl) (hM.le_at 2 rfl)) {} (fun r4 hr4=>?_)))
    rintro⟨⟨A_4,c_4⟩,o⟩
    refine Y3 (fun w hM=>hM.fact_at 0 rfl) (fun gh=>X2 [Ow A_4 c_4 22 1 (o.map Sl.c),.inr (Bag 3 1 ic o),Ow A_all_2 zh 122 23 (zg.map followed.c),Ow A_tracks_2 q7 40 13 (qn.map Track.c),Ow A c 42 6 (r2.1.map Zj.c),Bk b_t (Zi.k (⟨t.rules,t.all,t.next,time⟩:Zi) A_t_all qf) 118,Ow A_t_all qf 122 23 (t.all.map followed.c),Ow A_l c_l 42 6 (l.map Zj.c)] (.cons _ (aB _)) (Y3 (fun w hM=>hM.short_at 0 rfl) (fun su=>?_)))
    have nj:=JC gh
    refine Zc 9 [] [(18,.slice A_4 r4.1.length c_4)] {} (Zz (Zc 1 [] [(111,.slice A_4 r4.1.length c_4)] {} (VI (Γ:=AN) 112 (Y5 r4.1 2147483648) (fun r5 g=>.tuple #[.slice g.1 r5.1.length g.2,.i r5.2.1,.i r5.2.2]) (fun r5 g=>[Ow g.1 g.2 3 1 (r5.1.map ic)]) (fun w hM=>Wq A_4 c_4 r4.1 o 2147483648 w (hM.rd_at 0 rfl) (BL gh (hM.le_at 0 rfl)) (hM.bag_at 1 rfl) gh) {} (fun r5 hr5=>?_))))
    have kb_:=SC h1 hr1 hr2 hJ (hR.symm.trans jv) hr4 hr5 hn;have kb1_:=kb_.1
    rintro⟨A_5,c_5⟩
    refine Y3 (fun w hM=>hM.short_at 0 rfl) (fun s_r5_0=>Zc 9 [] [(20,.slice A_5 r5.1.length c_5)] {} (Zz (Zc 2 [] [(117,.i (r2.1.length:Int))] {} (TL.on (Γ:=AN) (sV (Instr.makeSlice 137 (.i (r2.1.length:Int)) (.i (r2.1.length:Int)))) 118 (fun g=>.slice g.1 (List.replicate ((r2.1.length:Int).toNat) false).length g.2) (fun g=>Ow g.1 g.2 4 1 ((List.replicate ((r2.1.length:Int).toNat) false).map bc)) (KX (P:=Tryz.prog) (c:=bc) (t:=137) (e:=4) (sz:=1) (bytes:=1) false .i64 .i64 ((r2.1.length:Int).toNat) Kr Kr (by (try have kx_:=Xu kb_.2 (show k_2<_ by omega));exact sd) (by (try have kx_:=Xu kb_.2 (show k_2<_ by omega));exact sd)) {} ?_))))
    rintro⟨A_6,c_6⟩
    refine Zc 4 [] [(23,.slice A_6 ((List.replicate ((r2.1.length:Int).toNat) false).length) c_6)] {} (Zz (Zc 3 [] [(121,.pt b_t 6)] {} (Yp 7 (Bk b_t (Zi.k (⟨t.rules,[],t.next,time⟩:Zi) none 0) 118) (fun _=>{}) (Z1 (Zf (Zc 3 [] [(122,.slice A_all_2 zg.length zh),(123,.i (zg.length:Int)),(124,.i 0)] {} (Zb rfl (Q0 [Ow none 0 122 23 (([]:List followed).map followed.c),Ow A_6 c_6 4 1 ((List.replicate ((r2.1.length:Int).toNat) false).map bc),Ow A_5 c_5 3 1 (r5.1.map ic),Ow A_4 c_4 22 1 (o.map Sl.c),.inr (Bag 3 1 ic o),Ow A_all_2 zh 122 23 (zg.map followed.c),Ow A_tracks_2 q7 40 13 (qn.map Track.c),Ow A c 42 6 (r2.1.map Zj.c),Bk b_t (Zi.k (⟨t.rules,[],t.next,time⟩:Zi) none 0) 118,Ow A_t_all qf 122 23 (t.all.map followed.c),Ow A_l c_l 42 6 (l.map Zj.c)] (fun _ hM=>hM.emptyrow none 122 23) (Q0 [Ow none 0 122 23 (([]:List followed).map followed.c),Ow A_6 c_6 4 1 ((List.replicate ((r2.1.length:Int).toNat) false).map bc),Ow A_5 c_5 3 1 (r5.1.map ic),Ow A_4 c_4 22 1 (o.map Sl.c),.inr (Bag 3 1 ic o),Ow A_all_2 zh 122 23 (zg.map followed.c),Ow A_tracks_2 q7 40 13 (qn.map Track.c),Ow A c 42 6 (r2.1.map Zj.c),Bk b_t (Zi.k (⟨t.rules,([]:List followed),t.next,time⟩:Zi) none 0) 118,Ow A_t_all qf 122 23 (t.all.map followed.c),Ow A_l c_l 42 6 (l.map Zj.c)] (fun _ hM=>hM) ?_)))))))))
    obtain⟨R9,xo⟩:∃ R,R=ZI t r2 r5 zg 0 (List.replicate ((r2.1.length:Int).toNat) false) ([]:List followed):=⟨_,rfl⟩
    refine TC.cut (S:=(List Bool)×(List followed)×(Option Addr)×Nat) (fun (zw,ja,A_xs__2,jh)=>[(0,.p0 b_t),(2,.i time),(9,.slice A r2.1.length c),(23,.slice A_6 zw.length c_6)]) (fun (zw,ja,A_xs__2,jh)=>[Ow A_xs__2 jh 122 23 (ja.map followed.c),Ow A_6 c_6 4 1 (zw.map bc),Ow A c 42 6 (r2.1.map Zj.c),Bk b_t (Zi.k (⟨t.rules,ja,t.next,time⟩:Zi) A_xs__2 jh) 118,Ow A_l c_l 42 6 (l.map Zj.c)]) (fun (zw,ja,A_xs__2,jh)=>R9=(zw,ja)∧zw.length=((r2.1.length:Int).toNat)∧ja.length≤zg.length) ?_ ?_
    ·refine TC.block (Xp (X:=Nat×(List Bool)×(List followed)×(Option Addr)×Nat) (fun (k_2,used,xs_,A_xs_,za)=>[(0,.p0 b_t),(2,.i time),(9,.slice A r2.1.length c),(20,.slice A_5 r5.1.length c_5),(23,.slice A_6 used.length c_6),(122,.slice A_all_2 zg.length zh),(123,.i (zg.length:Int)),(124,.i (k_2:Int))]) (fun (k_2,used,xs_,A_xs_,za)=>[Ow A_xs_ za 122 23 (xs_.map followed.c),Ow A_6 c_6 4 1 (used.map bc),Ow A_5 c_5 3 1 (r5.1.map ic),Ow A_all_2 zh 122 23 (zg.map followed.c),Ow A c 42 6 (r2.1.map Zj.c),Bk b_t (Zi.k (⟨t.rules,xs_,t.next,time⟩:Zi) A_xs_ za) 118,Ow A_l c_l 42 6 (l.map Zj.c)]) (fun (k_2,used,xs_,A_xs_,za)=>zg.length-k_2) (fun (k_2,used,xs_,A_xs_,za)=>k_2≤zg.length∧R9=ZI t r2 r5 (zg.drop k_2) k_2 used xs_∧used.length=((r2.1.length:Int).toNat)∧xs_.length≤k_2) ?_ (0,(List.replicate ((r2.1.length:Int).toNat) false),([]:List followed),none,0) ⟨aP _,xo,sz,sz⟩ Kr (sb 1447))
     rintro⟨k_2,used,xs_,A_xs_,za⟩ ⟨y4,xg,fv,ly⟩
     refine Zf (Zc 1 [] [(125,.b (decide ((k_2:Int)<(zg.length:Int))))] {} (Z1 (TC.cond (decide ((k_2:Int)<(zg.length:Int))) rfl Kr (fun h5=>?_) (fun h5=>?_))))
     ·have zk:=ltN h5
      obtain⟨x_2,jf⟩:=elN zk
      have zr:=drop_at jf
      refine Yg (TC.seq (TC.block (Zf (Zc 1 [] [(126,.i (k_2:Int))] {} (TL.v (sV (Instr.indexAt 116 (.slice A_all_2 zg.length zh) (.i (k_2:Int)))) 127 (.pointer (some (Ix A_all_2 (k_2*23)))) (fun w hM=>Zr (hM.rd_at 3 rfl) (by simp) Kr (by (try have kx_:=Xu kb_.2 (show k_2<_ by omega));exact sd) (by (try have kx_:=Xu kb_.2 (show k_2<_ by omega));exact sd)) {} (TL.v (sV (Instr.loadAt 122 (.pointer (some (Ix A_all_2 (k_2*23)))))) 128 (followed.v x_2) (fun w hM=>Z9 (n:=23) (off:=0) (i:=k_2) (followed.v x_2) (hM.rd_at 3 rfl) (Z6 jf) Kr Kr Kr) {} (ZA 25 (fun b5=>.p0 b5) (fun b5=>Bk b5 (followed.c followed.zero) 122) (fun b5=>{}) (fun b5=>Zc 5 [] [(24,.i (k_2:Int))] {} (Yp 0 (Bk b5 (followed.c x_2) 122) (fun _=>{}) (Zz (Zc 1 [] [(129,.pt b5 22)] {} (Yp 0 (Bk b5 (followed.c (⟨x_2.f,x_2.history,false⟩:followed)) 122) (fun _=>{}) (Z1 (Zf (Zc 2 [] [(130,.slice A_5 r5.1.length c_5),(131,.i (k_2:Int))] {} (TL.v (sV (Instr.indexAt 22 (.slice A_5 r5.1.length c_5) (.i (k_2:Int)))) 132 (.pointer (some (Ix A_5 (k_2*1)))) (fun w hM=>Zr (hM.rd_at 3 rfl) (by simp) Kr (by (try have kx_:=Xu kb_.2 (show k_2<_ by omega));exact sd) (by (try have kx_:=Xu kb_.2 (show k_2<_ by omega));exact sd)) {} (TL.v (sV (Instr.loadAt 3 (.pointer (some (Ix A_5 (k_2*1)))))) 133 (.i (r5.1[k_2]?.getD 0)) (fun w hM=>Zu (off:=0) (i:=k_2) (.i (r5.1[k_2]?.getD 0)) (hM.rd_at 3 rfl) (Z6 (getD_at _ _ 0 (by (try have kx_:=Xu kb_.2 (show k_2<_ by omega));exact sd))) Kr Kr) {} (Zc 5 [] [(26,.i (r5.1[k_2]?.getD 0))] {} (Zz (Zc 2 [] [(135,.b (decide ((r5.1[k_2]?.getD 0)≥0)))] {} (Zb rfl ?_)))))))))))))))))))))
      refine TC.cut (S:=(List Bool)×followed) (fun (xb,x_3)=>[(0,.p0 b_t),(2,.i time),(9,.slice A r2.1.length c),(20,.slice A_5 r5.1.length c_5),(23,.slice A_6 xb.length c_6),(25,.p0 b5),(122,.slice A_all_2 zg.length zh),(123,.i (zg.length:Int)),(124,.i (k_2:Int))]) (fun (xb,x_3)=>[Bk b5 (followed.c x_3) 122,Ow A_xs_ za 122 23 (xs_.map followed.c),Ow A_6 c_6 4 1 (xb.map bc),Ow A_5 c_5 3 1 (r5.1.map ic),Ow A_all_2 zh 122 23 (zg.map followed.c),Ow A c 42 6 (r2.1.map Zj.c),Bk b_t (Zi.k (⟨t.rules,xs_,t.next,time⟩:Zi) A_xs_ za) 118,Ow A_l c_l 42 6 (l.map Zj.c)]) (fun (xb,x_3)=>(cond (decide ((r5.1[k_2]?.getD 0)≥0)) (
       let r6:=Yk x_2.f (r2.1[(r5.1[k_2]?.getD 0).toNat]?.getD Zj.zero) t.rules.Accel t.rules.Place t.rules.Speed
       cond (r6.2==0) (
        let r7:=QH r6.1
        ((used.set ((r5.1[k_2]?.getD 0).toNat) true),(⟨r7.1,x_2.history,true⟩:followed))) (
        (used,(⟨x_2.f,x_2.history,false⟩:followed)))) (
       (used,(⟨x_2.f,x_2.history,false⟩:followed))))=(xb,x_3)∧(xb.length=used.length)) ?_ ?_
      ·refine TC.cond (decide ((r5.1[k_2]?.getD 0)≥0)) rfl Kr (fun h6=>?_) (fun h6=>?_)
       ·have y3:=(ZF h6)
        refine TC.seq ?_
        obtain⟨r6,hr6⟩:∃ r,Yk x_2.f (r2.1[(r5.1[k_2]?.getD 0).toNat]?.getD Zj.zero) t.rules.Accel t.rules.Place t.rules.Speed=r:=⟨_,rfl⟩
        let Mr28_:Mem:=[Bk b5 (followed.c (⟨x_2.f,x_2.history,false⟩:followed)) 122,Ow A_xs_ za 122 23 (xs_.map followed.c),Ow A_6 c_6 4 1 (used.map bc),Ow A_5 c_5 3 1 (r5.1.map ic),Ow A_all_2 zh 122 23 (zg.map followed.c),Ow A c 42 6 (r2.1.map Zj.c),Bk b_t (Zi.k (⟨t.rules,xs_,t.next,time⟩:Zi) A_xs_ za) 118,Ow A_l c_l 42 6 (l.map Zj.c)]
        refine Jm (G:=Nat) (base:=[(0,.p0 b_t),(2,.i time),(9,.slice A r2.1.length c),(20,.slice A_5 r5.1.length c_5),(23,.slice A_6 used.length c_6),(25,.p0 b5),(26,.i (r5.1[k_2]?.getD 0)),(122,.slice A_all_2 zg.length zh),(123,.i (zg.length:Int)),(124,.i (k_2:Int))]) (vals:=fun γ=>[.p0 b5,Za.v x_2.f,.slice A r2.1.length c,.i (r5.1[k_2]?.getD 0),.pointer (some (Ix A ((r5.1[k_2]?.getD 0).toNat*6))),Zj.v (r2.1[(r5.1[k_2]?.getD 0).toNat]?.getD Zj.zero),.p0 b_t,.p0 b_t,.p0 b_t,.pt b_t 3,.i t.rules.Accel,.p0 b_t,.p0 b_t,.p0 b_t,.pt b_t 4,.i t.rules.Place,.p0 b_t,.p0 b_t,.p0 b_t,.pt b_t 5,.i t.rules.Speed,.tuple #[Za.v r6.1,.i r6.2],.tuple #[Za.v r6.1,.i r6.2],Za.v r6.1,.i r6.2,.p0 γ,undef,.i r6.2]) (writes:=[25,26]) (mem:=fun bs γ=>match bs with | [x25_,x26_]=>(bif x26_ then [Bk γ (Za.c r6.1) 44] else bif x25_ then [Bk γ (Za.c Za.zero) 44] else [])++(Mr28_)|_=>[]) (0) (fun γ=>[(0,.p0 b_t),(2,.i time),(9,.slice A r2.1.length c),(20,.slice A_5 r5.1.length c_5),(23,.slice A_6 used.length c_6),(25,.p0 b5),(26,.i (r5.1[k_2]?.getD 0)),(27,.p0 γ),(28,.i r6.2),(122,.slice A_all_2 zg.length zh),(123,.i (zg.length:Int)),(124,.i (k_2:Int))]) Kr Kr Kr Kr Kr (fun γ=>Kr) (fun _ hM=>hM) (fun γ=>Kr) ?_ ?_
        ·skip
         exact Steps.run (i:=0) 4 [0,0,0,0] Mr28_ Kr Kr (fun S (γ:Nat) w hM=>by rw[mS2 rfl rfl] at hM;exact hM.sub (Zl (aB _))) Kr (fun (γ:Nat)=>{}) (XB (i:=4) (fun (γ:Nat)=>sV (Instr.indexAt 52 (.slice A r2.1.length c) (.i (r5.1[k_2]?.getD 0)))) (some 141) (fun (γ:Nat)=>.pointer (some (Ix A ((r5.1[k_2]?.getD 0).toNat*6)))) (fun _=>Mr28_) Kr (fun S (γ:Nat) w _ hM=>by rw[mS2 rfl rfl] at hM;exact hM.sub (Zl (aB _))) (fun (γ:Nat) w hM=>Zr (hM.rd_at 5 rfl) (by simp) Kr (by (try have kx_:=Xu kb_.2 (show k_2<_ by omega));exact sd) (by (try have kx_:=Xu kb_.2 (show k_2<_ by omega));exact sd)) (fun (γ:Nat)=>Kr) (fun (γ:Nat)=>Kr) (XB (i:=5) (fun (γ:Nat)=>sV (Instr.loadAt 42 (.pointer (some (Ix A ((r5.1[k_2]?.getD 0).toNat*6)))))) (some 142) (fun (γ:Nat)=>Zj.v (r2.1[(r5.1[k_2]?.getD 0).toNat]?.getD Zj.zero)) (fun _=>Mr28_) Kr (fun S (γ:Nat) w _ hM=>by rw[mS2 rfl rfl] at hM;exact hM.sub (Zl (aB _))) (fun (γ:Nat) w hM=>Z9 (n:=6) (off:=0) (i:=(r5.1[k_2]?.getD 0).toNat) (Zj.v (r2.1[(r5.1[k_2]?.getD 0).toNat]?.getD Zj.zero)) (hM.rd_at 5 rfl) (Z6 (getD_at _ _ Zj.zero (by (try have kx_:=Xu kb_.2 (show k_2<_ by omega));exact sd))) Kr Kr Kr) (fun (γ:Nat)=>Kr) (fun (γ:Nat)=>Kr) (Steps.run (i:=6) 21 [0,0,0,0,6,0,0,0,0,6,0,0,0,0,6] Mr28_ Kr Kr (fun S (γ:Nat) w hM=>by rw[mS2 rfl rfl] at hM;exact hM.sub (Zl (aB _))) Kr (fun (γ:Nat)=>{}) (Steps.call (i:=21) 53 (fun (γ:Nat)=>#[Za.v x_2.f,Zj.v (r2.1[(r5.1[k_2]?.getD 0).toNat]?.getD Zj.zero),.i t.rules.Accel,.i t.rules.Place,.i t.rules.Speed]) (some 158) (fun (γ:Nat)=>.tuple #[Za.v r6.1,.i r6.2]) (fun (γ:Nat)=>[Bk b5 (followed.c (⟨x_2.f,x_2.history,false⟩:followed)) 122,Ow A_xs_ za 122 23 (xs_.map followed.c),Ow A_6 c_6 4 1 (used.map bc),Ow A_5 c_5 3 1 (r5.1.map ic),Ow A_all_2 zh 122 23 (zg.map followed.c),Ow A c 42 6 (r2.1.map Zj.c),Bk b_t (Zi.k (⟨t.rules,xs_,t.next,time⟩:Zi) A_xs_ za) 118,Ow A_l c_l 42 6 (l.map Zj.c)]) Kr (fun S (γ:Nat) w _ hM=>by rw[mS2 rfl rfl] at hM;exact hM.sub (Zl (aB _))) (fun (γ:Nat) w _=>by have h:=Bh x_2.f (r2.1[(r5.1[k_2]?.getD 0).toNat]?.getD Zj.zero) t.rules.Accel t.rules.Place t.rules.Speed w;rw[hr6] at h;exact h) (fun (γ:Nat)=>Kr) (fun (γ:Nat)=>Kr) (Steps.run (i:=22) 25 [0,0,0] Mr28_ Kr Kr (fun S (γ:Nat) w hM=>by rw[mS2 rfl rfl] at hM;exact hM.sub (Zl (aB _))) Kr (fun (γ:Nat)=>{}) (Steps.op (i:=25) (Γ:=Nat) (fun g (γ:Nat)=>g) (fun _=>[]) (fun b (γ:Nat)=>[Bk b (Za.c Za.zero) 44]) (fun S (γ:Nat)=>Mr28_) [25,26,27] (fun (γ:Nat)=>sV (Instr.alloc 44 true (.tuple #[]))) (some 27) (fun b (γ:Nat)=>.p0 b) (fun S (γ:Nat) hj hd hl=>by rw[mS2 hj (hl 26 Kr)];exact aC _) (fun S (γ:Nat) g hl=>by rw[mS2 (S:=upS S 25) (a0:=25) (a1:=26) rfl (hl 26 Kr)];exact(aC _).symm) (fun (γ:Nat) M' w hM=>Q4 (v:=fun b=>.p0 b) (fun b M=>Kr) M' w hM) (fun (γ:Nat)=>Kr) (fun (γ:Nat) g=>Kr) Kr (fun (γ:Nat) g=>Kr) (Steps.put (i:=26) (fun (γ:Nat)=>[Bk γ (Za.c Za.zero) 44]) (fun (γ:Nat)=>[Bk γ (Za.c r6.1) 44]) (fun S (γ:Nat)=>Mr28_) (fun (γ:Nat)=>sU (Instr.storeAt 44 (.p0 γ) (Za.v r6.1))) none (fun S (γ:Nat) hj hd hl=>by rw[mS2 (hd 25 Kr) hj];exact aC _) (fun S (γ:Nat) _=>(aC _).symm) (fun (γ:Nat) M' w hM=>JB (fun b M=>Kr) (fun b M=>Kr) M' w hM) (fun (γ:Nat)=>Kr) (fun (γ:Nat)=>Kr) (Steps.run (i:=27) 28 [0] Mr28_ Kr Kr (fun S (γ:Nat) w hM=>by rw[mS2 rfl rfl] at hM;exact hM.sub (Zl (aB _))) Kr (fun (γ:Nat)=>{}) (X6 Kr)))))))))
        ·rintro b6
         refine Yi [Bk b6 (Za.c r6.1) 44,Bk b5 (followed.c (⟨x_2.f,x_2.history,false⟩:followed)) 122,Ow A_xs_ za 122 23 (xs_.map followed.c),Ow A_6 c_6 4 1 (used.map bc),Ow A_5 c_5 3 1 (r5.1.map ic),Ow A_all_2 zh 122 23 (zg.map followed.c),Ow A c 42 6 (r2.1.map Zj.c),Bk b_t (Zi.k (⟨t.rules,xs_,t.next,time⟩:Zi) A_xs_ za) 118,Ow A_l c_l 42 6 (l.map Zj.c)] (fun _ hM=>hM) (YC (Zc 2 [] [(162,.b (r6.2==0))] {} (Zb rfl (TC.cond (r6.2==0) rfl Kr (fun h7=>?_) (fun h7=>?_)))))
         ·have yr:=(YT h7)
          exact Zf (Zc 1 [0] [(164,Za.v r6.1)] {} (TL.c 165 (QH r6.1) (fun r7=>.tuple #[Za.v r7.1,.i r7.2]) (fun w _=>Lr r6.1 w) {} (fun r7 hr7=>Zc 5 [] [(166,Za.v r7.1)] {} (Yp 0 (Bk b6 (Za.c r7.1) 44) (fun _=>{}) (Zb rfl (TC.region (Zc 4 [0] [(168,.slice A_6 used.length c_6),(169,.i (r5.1[k_2]?.getD 0)),(170,Za.v r7.1),(171,.p0 b5)] {} (Yp 1 (Bk b5 (followed.c (⟨r7.1,x_2.history,false⟩:followed)) 122) (fun _=>{}) (Zc 6 [] [(172,.pt b5 22)] {} (Yp 1 (Bk b5 (followed.c (⟨r7.1,x_2.history,true⟩:followed)) 122) (fun _=>{}) (TL.v (sV (Instr.indexAt 137 (.slice A_6 used.length c_6) (.i (r5.1[k_2]?.getD 0)))) 173 (.pointer (some (Ix A_6 ((r5.1[k_2]?.getD 0).toNat*1)))) (fun w hM=>Zr (hM.rd_at 3 rfl) (by simp) Kr (by (try have kx_:=Xu kb_.2 (show k_2<_ by omega));exact sd) (by (try have kx_:=Xu kb_.2 (show k_2<_ by omega));exact sd)) {} (KF (Γ:=Unit) (sU (Instr.storeAt 4 (.pointer (some ((Ix A_6 ((r5.1[k_2]?.getD 0).toNat*1)).add 0))) (.b true))) 3 (Ow A_6 c_6 4 1 ((used.set ((r5.1[k_2]?.getD 0).toNat) true).map bc)) (Y2 (n:=1) (off:=0) (.b true) 3 ((used.set ((r5.1[k_2]?.getD 0).toNat) true).map bc) rfl (Z6 (getD_at _ _ false (by (try have kx_:=Xu kb_.2 (show k_2<_ by omega));exact sd))) Kr Kr Kr Kr (YJ Kr)) Kr (TL.rw 23 (.slice A_6 used.length c_6) (.slice A_6 ((used.set ((r5.1[k_2]?.getD 0).toNat) true).length) c_6) Kr (by simp only[aL]) (Zw rfl (TE.cut ((used.set ((r5.1[k_2]?.getD 0).toNat) true),(⟨r7.1,x_2.history,true⟩:followed)) ⟨(by subst hr1 hr2 hr4 hr5 hr6 hr7;exact Zm h6 (Zm h7 (rfl))),(by simp)⟩ Kr (sb 510))))))))))))))))
         ·have yr:=(Yl h7)
          exact TC.skip (TE.cut (used,(⟨x_2.f,x_2.history,false⟩:followed)) ⟨(by subst hr1 hr2 hr4 hr5 hr6;exact Zm h6 (Ze h7 (rfl))),(by simp)⟩ Kr (sb 510))
       ·have y3:=(Zv h6)
        exact TC.skip (TE.cut (used,(⟨x_2.f,x_2.history,false⟩:followed)) ⟨(by subst hr1 hr2 hr4 hr5;exact Ze h6 (rfl)),(by simp)⟩ Kr (sb 255))
      ·rintro⟨xb,x_3⟩ ⟨gg,nk⟩
       refine Z3 (TC.seq (Zf (Zc 3 [0] [(176,.b (!x_3.hit))] {} (Zb rfl (TC.cond (!x_3.hit) rfl Kr (fun h8=>?_) (fun h8=>?_))))))
       ·refine TC.seq ?_
        obtain⟨r8,hr8⟩:∃ r,Xt x_3.f t.rules.Misses=r:=⟨_,rfl⟩
        let Mr33_:Mem:=[Bk b5 (followed.c x_3) 122,Ow A_xs_ za 122 23 (xs_.map followed.c),Ow A_6 c_6 4 1 (xb.map bc),Ow A_5 c_5 3 1 (r5.1.map ic),Ow A_all_2 zh 122 23 (zg.map followed.c),Ow A c 42 6 (r2.1.map Zj.c),Bk b_t (Zi.k (⟨t.rules,xs_,t.next,time⟩:Zi) A_xs_ za) 118,Ow A_l c_l 42 6 (l.map Zj.c)]
        refine Jm (G:=Nat) (base:=[(0,.p0 b_t),(2,.i time),(9,.slice A r2.1.length c),(20,.slice A_5 r5.1.length c_5),(23,.slice A_6 xb.length c_6),(25,.p0 b5),(122,.slice A_all_2 zg.length zh),(123,.i (zg.length:Int)),(124,.i (k_2:Int))]) (vals:=fun γ=>[.p0 b5,Za.v x_3.f,.p0 b_t,.p0 b_t,.p0 b_t,.pt b_t 2,.i t.rules.Misses,.tuple #[Za.v r8.1,.b r8.2.1,.i r8.2.2],.tuple #[Za.v r8.1,.b r8.2.1,.i r8.2.2],Za.v r8.1,.b r8.2.1,.i r8.2.2,.p0 γ,undef,.b r8.2.1,.i r8.2.2]) (writes:=[12,13]) (mem:=fun bs γ=>match bs with | [y5,x13_]=>(bif x13_ then [Bk γ (Za.c r8.1) 44] else bif y5 then [Bk γ (Za.c Za.zero) 44] else [])++(Mr33_)|_=>[]) (0) (fun γ=>[(0,.p0 b_t),(2,.i time),(9,.slice A r2.1.length c),(20,.slice A_5 r5.1.length c_5),(23,.slice A_6 xb.length c_6),(25,.p0 b5),(29,.p0 γ),(30,.b r8.2.1),(31,.i r8.2.2),(122,.slice A_all_2 zg.length zh),(123,.i (zg.length:Int)),(124,.i (k_2:Int))]) Kr Kr Kr Kr Kr (fun γ=>Kr) (fun _ hM=>hM) (fun γ=>Kr) ?_ ?_
        ·skip
         exact Steps.run (i:=0) 7 [0,0,0,0,0,0,6] Mr33_ Kr Kr (fun S (γ:Nat) w hM=>by rw[mS2 rfl rfl] at hM;exact hM.sub (Zl (aB _))) Kr (fun (γ:Nat)=>{}) (Steps.call (i:=7) 55 (fun (γ:Nat)=>#[Za.v x_3.f,.i t.rules.Misses]) (some 185) (fun (γ:Nat)=>.tuple #[Za.v r8.1,.b r8.2.1,.i r8.2.2]) (fun (γ:Nat)=>[Bk b5 (followed.c x_3) 122,Ow A_xs_ za 122 23 (xs_.map followed.c),Ow A_6 c_6 4 1 (xb.map bc),Ow A_5 c_5 3 1 (r5.1.map ic),Ow A_all_2 zh 122 23 (zg.map followed.c),Ow A c 42 6 (r2.1.map Zj.c),Bk b_t (Zi.k (⟨t.rules,xs_,t.next,time⟩:Zi) A_xs_ za) 118,Ow A_l c_l 42 6 (l.map Zj.c)]) Kr (fun S (γ:Nat) w _ hM=>by rw[mS2 rfl rfl] at hM;exact hM.sub (Zl (aB _))) (fun (γ:Nat) w _=>by have h:=N2 x_3.f t.rules.Misses w;rw[hr8] at h;exact h) (fun (γ:Nat)=>Kr) (fun (γ:Nat)=>Kr) (Steps.run (i:=8) 12 [0,0,0,0] Mr33_ Kr Kr (fun S (γ:Nat) w hM=>by rw[mS2 rfl rfl] at hM;exact hM.sub (Zl (aB _))) Kr (fun (γ:Nat)=>{}) (Steps.op (i:=12) (Γ:=Nat) (fun g (γ:Nat)=>g) (fun _=>[]) (fun b (γ:Nat)=>[Bk b (Za.c Za.zero) 44]) (fun S (γ:Nat)=>Mr33_) [12,13,14,15] (fun (γ:Nat)=>sV (Instr.alloc 44 true (.tuple #[]))) (some 29) (fun b (γ:Nat)=>.p0 b) (fun S (γ:Nat) hj hd hl=>by rw[mS2 hj (hl 13 Kr)];exact aC _) (fun S (γ:Nat) g hl=>by rw[mS2 (S:=upS S 12) (a0:=12) (a1:=13) rfl (hl 13 Kr)];exact(aC _).symm) (fun (γ:Nat) M' w hM=>Q4 (v:=fun b=>.p0 b) (fun b M=>Kr) M' w hM) (fun (γ:Nat)=>Kr) (fun (γ:Nat) g=>Kr) Kr (fun (γ:Nat) g=>Kr) (Steps.put (i:=13) (fun (γ:Nat)=>[Bk γ (Za.c Za.zero) 44]) (fun (γ:Nat)=>[Bk γ (Za.c r8.1) 44]) (fun S (γ:Nat)=>Mr33_) (fun (γ:Nat)=>sU (Instr.storeAt 44 (.p0 γ) (Za.v r8.1))) none (fun S (γ:Nat) hj hd hl=>by rw[mS2 (hd 12 Kr) hj];exact aC _) (fun S (γ:Nat) _=>(aC _).symm) (fun (γ:Nat) M' w hM=>JB (fun b M=>Kr) (fun b M=>Kr) M' w hM) (fun (γ:Nat)=>Kr) (fun (γ:Nat)=>Kr) (Steps.run (i:=14) 16 [0,0] Mr33_ Kr Kr (fun S (γ:Nat) w hM=>by rw[mS2 rfl rfl] at hM;exact hM.sub (Zl (aB _))) Kr (fun (γ:Nat)=>{}) (X6 Kr))))))
        ·rintro b7
         refine Yi [Bk b7 (Za.c r8.1) 44,Bk b5 (followed.c x_3) 122,Ow A_xs_ za 122 23 (xs_.map followed.c),Ow A_6 c_6 4 1 (xb.map bc),Ow A_5 c_5 3 1 (r5.1.map ic),Ow A_all_2 zh 122 23 (zg.map followed.c),Ow A c 42 6 (r2.1.map Zj.c),Bk b_t (Zi.k (⟨t.rules,xs_,t.next,time⟩:Zi) A_xs_ za) 118,Ow A_l c_l 42 6 (l.map Zj.c)] (fun _ hM=>hM) (Z3 (TC.seq (Zf (Zc 3 [] [(191,.b (r8.2.2 != 0))] {} (XM 191 (r8.2.2 != 0) 5 [] [] (fun β=>[(193,.b (β||r8.2.1))]) Kr {} {} (Zb rfl (TC.cond ((r8.2.2 != 0)||r8.2.1) rfl Kr (fun h9=>?_) (fun h9=>?_))))))))
         ·refine TC.exit (ZT (ZT (Z0 ?_)))
          exact Z3 (TC.region (Zc 2 [] [(124,.i (w64 ((k_2:Int)+1)))] {} (Zw rfl (TE.rw 124 (.i (w64 ((k_2:Int)+1))) (.i ((k_2+1:Nat):Int)) Kr (ZD k_2 (by (try have kx_:=Xu kb_.2 (show k_2<_ by omega));omega)) (Z4 (x:=(k_2,used,xs_,A_xs_,za)) (k_2+1,xb,xs_,A_xs_,za) ⟨by omega,xg.trans (by subst hr1 hr2 hr4 hr5 hr8;rw[zr];exact Yr (gg) (Zm h8 (Zm h9 (rfl)))),(by (try have kx_:=Xu kb_.2 (show k_2<_ by omega));exact sl),(by (try have kx_:=Xu kb_.2 (show k_2<_ by omega));exact sl)⟩ (mN zk) Kr (sb 508))))))
         ·have dc:=(QA (Z2 h9))
          refine Yg (TC.region (Zc 2 [0] [(194,Za.v r8.1),(195,.p0 b5)] {} (Yp 1 (Bk b5 (followed.c (⟨r8.1,x_3.history,x_3.hit⟩:followed)) 122) (fun _=>{}) (Zb rfl ?_))))
          let Mr36_:Mem:=[Bk b7 (Za.c r8.1) 44,Bk b5 (followed.c (⟨r8.1,x_3.history,x_3.hit⟩:followed)) 122,Ow A_6 c_6 4 1 (xb.map bc),Ow A_5 c_5 3 1 (r5.1.map ic),Ow A_all_2 zh 122 23 (zg.map followed.c),Ow A c 42 6 (r2.1.map Zj.c),Ow A_l c_l 42 6 (l.map Zj.c)]
          refine Jm (G:=Nat×AN) (base:=[(0,.p0 b_t),(2,.i time),(9,.slice A r2.1.length c),(20,.slice A_5 r5.1.length c_5),(23,.slice A_6 xb.length c_6),(25,.p0 b5),(122,.slice A_all_2 zg.length zh),(123,.i (zg.length:Int)),(124,.i (k_2:Int))]) (vals:=fun γ=>[.p0 b_t,.p0 b_t,.p0 b_t,.pt b_t 6,.slice A_xs_ xs_.length za,followed.v (⟨r8.1,x_3.history,x_3.hit⟩:followed),.slice (Pa γ.1) 1 1,.slice (γ.2.1) ((xs_++([(⟨r8.1,x_3.history,x_3.hit⟩:followed)])).length) (γ.2.2),.p0 b_t,.pt b_t 6,undef]) (writes:=[6,7,10]) (mem:=fun bs γ=>match bs with | [x6_,x7_,fl]=>(bif x6_ then [Bk γ.1 (followed.c (⟨r8.1,x_3.history,x_3.hit⟩:followed)) 122] else [])++((bif x7_ then [Ow (γ.2.1) (γ.2.2) 122 23 ((xs_++([(⟨r8.1,x_3.history,x_3.hit⟩:followed)])).map followed.c)] else [Ow A_xs_ za 122 23 (xs_.map followed.c)])++((bif fl then [Bk b_t (Zi.k (⟨t.rules,(xs_++([(⟨r8.1,x_3.history,x_3.hit⟩:followed)])),t.next,time⟩:Zi) (γ.2.1) (γ.2.2)) 118] else [Bk b_t (Zi.k (⟨t.rules,xs_,t.next,time⟩:Zi) A_xs_ za) 118])++(Mr36_)))|_=>[]) (0,(none,0)) (fun γ=>[(0,.p0 b_t),(2,.i time),(9,.slice A r2.1.length c),(20,.slice A_5 r5.1.length c_5),(23,.slice A_6 xb.length c_6),(122,.slice A_all_2 zg.length zh),(123,.i (zg.length:Int)),(124,.i (k_2:Int))]) Kr Kr Kr Kr Kr (fun γ=>Kr) (fun _ hM=>hM.perm (px [2,7,0,1,3,4,5,6,8])) (fun γ=>Kr) ?_ ?_
          ·skip
           exact Steps.run (i:=0) 4 [0,0,0,0] Mr36_ Kr Kr (fun S (γ:Nat×AN) w hM=>by rw[mS3 rfl rfl rfl] at hM;exact hM.sub (Zl (Zl (Zl (aB _))))) Kr (fun (γ:Nat×AN)=>{}) (WG (i:=4) (fun (γ:Nat×AN)=>sV (Instr.loadAt 116 (.pt b_t 6))) (some 200) (fun (γ:Nat×AN)=>.slice A_xs_ xs_.length za) (fun _=>[Bk b_t (Zi.k (⟨t.rules,xs_,t.next,time⟩:Zi) A_xs_ za) 118]++Mr36_) Kr (fun S (γ:Nat×AN) w hi hd hu hM=>by rw[mS3 rfl rfl (lat (hu 4 10 Kr) hi)] at hM;exact hM.sub (Zl (Zl (Nu (aB _))))) (fun (γ:Nat×AN) w hM=>Ky (j:=0) hM _ _ [(b_t,b_t)] Kr (by intro p hp;rw[bE.1 hp])) (fun (γ:Nat×AN)=>Kr) (fun (γ:Nat×AN)=>Kr) (Steps.run (i:=5) 6 [1] Mr36_ Kr Kr (fun S (γ:Nat×AN) w hM=>by rw[mS3 rfl rfl rfl] at hM;exact hM.sub (Zl (Zl (Zl (aB _))))) Kr (fun (γ:Nat×AN)=>{}) (Steps.op (i:=6) (Γ:=Nat) (fun g (γ:Nat×AN)=>(g,γ.2)) (fun _=>[]) (fun b (γ:Nat×AN)=>[Bk b (followed.c (⟨r8.1,x_3.history,x_3.hit⟩:followed)) 122]) (fun S (γ:Nat×AN)=>(bif S 7 then [Ow (γ.2.1) (γ.2.2) 122 23 ((xs_++([(⟨r8.1,x_3.history,x_3.hit⟩:followed)])).map followed.c)] else [Ow A_xs_ za 122 23 (xs_.map followed.c)])++((bif S 10 then [Bk b_t (Zi.k (⟨t.rules,(xs_++([(⟨r8.1,x_3.history,x_3.hit⟩:followed)])),t.next,time⟩:Zi) (γ.2.1) (γ.2.2)) 118] else [Bk b_t (Zi.k (⟨t.rules,xs_,t.next,time⟩:Zi) A_xs_ za) 118])++(Mr36_))) [6,7,8,9,10] (fun (γ:Nat×AN)=>sV (Instr.buildSlice 116 1 #[(0,followed.v (⟨r8.1,x_3.history,x_3.hit⟩:followed))])) (some 202) (fun b (γ:Nat×AN)=>.slice (Pa b) 1 1) (fun S (γ:Nat×AN) hj hd hl=>by rw[mS3 hj rfl rfl];exact aC _) (fun S (γ:Nat×AN) g _=>(aC _).symm) (fun (γ:Nat×AN) M' w hM=>Q4 (v:=fun b=>.slice (Pa b) 1 1) (fun b M=>Kr) M' w hM) (fun (γ:Nat×AN)=>Kr) (fun (γ:Nat×AN) g=>Kr) Kr (fun (γ:Nat×AN) g=>Kr) (Vi (i:=7) (Γ:=AN) (fun g (γ:Nat×AN)=>(γ.1,g)) (fun (γ:Nat×AN)=>[Ow A_xs_ za 122 23 (xs_.map followed.c),Bk γ.1 (followed.c (⟨r8.1,x_3.history,x_3.hit⟩:followed)) 122]) (fun g (γ:Nat×AN)=>[Ow (g.1) (g.2) 122 23 ((xs_++([(⟨r8.1,x_3.history,x_3.hit⟩:followed)])).map followed.c),Bk γ.1 (followed.c (⟨r8.1,x_3.history,x_3.hit⟩:followed)) 122]) (fun S (γ:Nat×AN)=>(bif S 10 then [Bk b_t (Zi.k (⟨t.rules,(xs_++([(⟨r8.1,x_3.history,x_3.hit⟩:followed)])),t.next,time⟩:Zi) (γ.2.1) (γ.2.2)) 118] else [Bk b_t (Zi.k (⟨t.rules,xs_,t.next,time⟩:Zi) A_xs_ za) 118])++(Mr36_)) [7,8,9,10] (fun (γ:Nat×AN)=>sV (Builtin.append_ #[116,116] 116 #[.slice A_xs_ xs_.length za,.slice (Pa γ.1) 1 1])) (some 203) (fun g (γ:Nat×AN)=>.slice (g.1) ((xs_++([(⟨r8.1,x_3.history,x_3.hit⟩:followed)])).length) (g.2)) (fun S (γ:Nat×AN) hj hd hl=>by change List.Perm (((bif S 6 then [Bk γ.1 (followed.c (⟨r8.1,x_3.history,x_3.hit⟩:followed)) 122] else [])++((bif S 7 then [Ow (γ.2.1) (γ.2.2) 122 23 ((xs_++([(⟨r8.1,x_3.history,x_3.hit⟩:followed)])).map followed.c)] else [Ow A_xs_ za 122 23 (xs_.map followed.c)])++((bif S 10 then [Bk b_t (Zi.k (⟨t.rules,(xs_++([(⟨r8.1,x_3.history,x_3.hit⟩:followed)])),t.next,time⟩:Zi) (γ.2.1) (γ.2.2)) 118] else [Bk b_t (Zi.k (⟨t.rules,xs_,t.next,time⟩:Zi) A_xs_ za) 118])++(Mr36_)))):Mem) _;rw[hj,hd 6 Kr];exact((aA _ (aC _)).trans (ZC _ _ _)).trans (aA _ ((aC _).trans (aA _ (aC _))))) (fun S (γ:Nat×AN) g _ hd hl=>by change List.Perm ([Ow (g.1) (g.2) 122 23 ((xs_++([(⟨r8.1,x_3.history,x_3.hit⟩:followed)])).map followed.c)]++([Bk γ.1 (followed.c (⟨r8.1,x_3.history,x_3.hit⟩:followed)) 122]++((bif S 10 then [Bk b_t (Zi.k (⟨t.rules,(xs_++([(⟨r8.1,x_3.history,x_3.hit⟩:followed)])),t.next,time⟩:Zi) (γ.2.1) (γ.2.2)) 118] else [Bk b_t (Zi.k (⟨t.rules,xs_,t.next,time⟩:Zi) A_xs_ za) 118])++(Mr36_)))) (((bif S 6 then [Bk γ.1 (followed.c (⟨r8.1,x_3.history,x_3.hit⟩:followed)) 122] else [])++((bif true then [Ow (g.1) (g.2) 122 23 ((xs_++([(⟨r8.1,x_3.history,x_3.hit⟩:followed)])).map followed.c)] else [Ow A_xs_ za 122 23 (xs_.map followed.c)])++((bif S 10 then [Bk b_t (Zi.k (⟨t.rules,(xs_++([(⟨r8.1,x_3.history,x_3.hit⟩:followed)])),t.next,time⟩:Zi) (g.1) (g.2)) 118] else [Bk b_t (Zi.k (⟨t.rules,xs_,t.next,time⟩:Zi) A_xs_ za) 118])++(Mr36_)))):Mem);rw[hd 6 Kr,hl 10 Kr];exact(((aA _ (aC _)).trans (ZC _ _ _)).trans (aA _ ((aC _).trans (aA _ (aC _))))).symm) (fun (γ:Nat×AN) M' w hM=>QE (bytes:=184) 116 0 ([(⟨r8.1,x_3.history,x_3.hit⟩:followed)]) Kr rfl rfl followed.one rfl (fun w hM=>(Rd.lit hM 1 _ rfl Kr Kr Kr)) rfl (by (try have kx_:=Xu kb_.2 (show k_2<_ by omega));exact sa) w hM) (fun (γ:Nat×AN)=>Kr) (fun (γ:Nat×AN) g=>Kr) Kr (fun (γ:Nat×AN) g=>Kr) (Steps.run (i:=8) 10 [0,0] Mr36_ Kr Kr (fun S (γ:Nat×AN) w hM=>by rw[mS3 rfl rfl rfl] at hM;exact hM.sub (Zl (Zl (Zl (aB _))))) Kr (fun (γ:Nat×AN)=>{}) (Steps.put (i:=10) (fun (γ:Nat×AN)=>[Bk b_t (Zi.k (⟨t.rules,xs_,t.next,time⟩:Zi) A_xs_ za) 118]) (fun (γ:Nat×AN)=>[Bk b_t (Zi.k (⟨t.rules,(xs_++([(⟨r8.1,x_3.history,x_3.hit⟩:followed)])),t.next,time⟩:Zi) (γ.2.1) (γ.2.2)) 118]) (fun S (γ:Nat×AN)=>(bif S 6 then [Bk γ.1 (followed.c (⟨r8.1,x_3.history,x_3.hit⟩:followed)) 122] else [])++((bif S 7 then [Ow (γ.2.1) (γ.2.2) 122 23 ((xs_++([(⟨r8.1,x_3.history,x_3.hit⟩:followed)])).map followed.c)] else [Ow A_xs_ za 122 23 (xs_.map followed.c)])++(Mr36_))) (fun (γ:Nat×AN)=>sU (Instr.storeAt 116 (.pt b_t 6) (.slice (γ.2.1) ((xs_++([(⟨r8.1,x_3.history,x_3.hit⟩:followed)])).length) (γ.2.2)))) none (fun S (γ:Nat×AN) hj hd hl=>by rw[mS3 rfl rfl hj];exact(aA _ ((aA _ (aC _)).trans (ZC _ _ _))).trans (ZC _ _ _)) (fun S (γ:Nat×AN) _=>((aA _ ((aA _ (aC _)).trans (ZC _ _ _))).trans (ZC _ _ _)).symm) (fun (γ:Nat×AN) M' w hM=>JB (fun b M=>Kr) (fun b M=>Kr) M' w hM) (fun (γ:Nat×AN)=>Kr) (fun (γ:Nat×AN)=>Kr) (X6 Kr)))))))
          ·rintro⟨b8,⟨A_7,c_7⟩⟩
           exact Yi [Bk b8 (followed.c (⟨r8.1,x_3.history,x_3.hit⟩:followed)) 122,Ow A_7 c_7 122 23 ((xs_++([(⟨r8.1,x_3.history,x_3.hit⟩:followed)])).map followed.c),Bk b_t (Zi.k (⟨t.rules,(xs_++([(⟨r8.1,x_3.history,x_3.hit⟩:followed)])),t.next,time⟩:Zi) A_7 c_7) 118,Bk b7 (Za.c r8.1) 44,Bk b5 (followed.c (⟨r8.1,x_3.history,x_3.hit⟩:followed)) 122,Ow A_6 c_6 4 1 (xb.map bc),Ow A_5 c_5 3 1 (r5.1.map ic),Ow A_all_2 zh 122 23 (zg.map followed.c),Ow A c 42 6 (r2.1.map Zj.c),Ow A_l c_l 42 6 (l.map Zj.c)] (fun _ hM=>hM) (ZY (Z3 (TC.region (Zc 2 [] [(124,.i (w64 ((k_2:Int)+1)))] {} (Zw rfl (Yi [Ow A_7 c_7 122 23 ((xs_++([(⟨r8.1,x_3.history,x_3.hit⟩:followed)])).map followed.c),Ow A_6 c_6 4 1 (xb.map bc),Ow A_5 c_5 3 1 (r5.1.map ic),Ow A_all_2 zh 122 23 (zg.map followed.c),Ow A c 42 6 (r2.1.map Zj.c),Bk b_t (Zi.k (⟨t.rules,(xs_++([(⟨r8.1,x_3.history,x_3.hit⟩:followed)])),t.next,time⟩:Zi) A_7 c_7) 118,Ow A_l c_l 42 6 (l.map Zj.c),Bk b8 (followed.c (⟨r8.1,x_3.history,x_3.hit⟩:followed)) 122,Bk b7 (Za.c r8.1) 44,Bk b5 (followed.c (⟨r8.1,x_3.history,x_3.hit⟩:followed)) 122] (fun _ hM=>hM.perm (px [1,5,6,7,8,2,9,0,3,4])) (TE.rw 124 (.i (w64 ((k_2:Int)+1))) (.i ((k_2+1:Nat):Int)) Kr (ZD k_2 (by (try have kx_:=Xu kb_.2 (show k_2<_ by omega));omega)) (Z4 (x:=(k_2,used,xs_,A_xs_,za)) (k_2+1,xb,(xs_++([(⟨r8.1,x_3.history,x_3.hit⟩:followed)])),A_7,c_7) ⟨by omega,xg.trans (by subst hr1 hr2 hr4 hr5 hr8;rw[zr];exact Yr (gg) (Zm h8 (Ze h9 (rfl)))),(by (try have kx_:=Xu kb_.2 (show k_2<_ by omega));exact sl),(by (try have kx_:=Xu kb_.2 (show k_2<_ by omega));exact sl)⟩ (mN zk) Kr (sb 127)))))))))
       ·refine Yg ?_
        let Mr36_:Mem:=[Bk b5 (followed.c x_3) 122,Ow A_6 c_6 4 1 (xb.map bc),Ow A_5 c_5 3 1 (r5.1.map ic),Ow A_all_2 zh 122 23 (zg.map followed.c),Ow A c 42 6 (r2.1.map Zj.c),Ow A_l c_l 42 6 (l.map Zj.c)]
        refine Jm (G:=Nat×AN) (base:=[(0,.p0 b_t),(2,.i time),(9,.slice A r2.1.length c),(20,.slice A_5 r5.1.length c_5),(23,.slice A_6 xb.length c_6),(25,.p0 b5),(122,.slice A_all_2 zg.length zh),(123,.i (zg.length:Int)),(124,.i (k_2:Int))]) (vals:=fun γ=>[.p0 b_t,.p0 b_t,.p0 b_t,.pt b_t 6,.slice A_xs_ xs_.length za,followed.v x_3,.slice (Pa γ.1) 1 1,.slice (γ.2.1) ((xs_++([x_3])).length) (γ.2.2),.p0 b_t,.pt b_t 6,undef]) (writes:=[6,7,10]) (mem:=fun bs γ=>match bs with | [x6_,x7_,fl]=>(bif x6_ then [Bk γ.1 (followed.c x_3) 122] else [])++((bif x7_ then [Ow (γ.2.1) (γ.2.2) 122 23 ((xs_++([x_3])).map followed.c)] else [Ow A_xs_ za 122 23 (xs_.map followed.c)])++((bif fl then [Bk b_t (Zi.k (⟨t.rules,(xs_++([x_3])),t.next,time⟩:Zi) (γ.2.1) (γ.2.2)) 118] else [Bk b_t (Zi.k (⟨t.rules,xs_,t.next,time⟩:Zi) A_xs_ za) 118])++(Mr36_)))|_=>[]) (0,(none,0)) (fun γ=>[(0,.p0 b_t),(2,.i time),(9,.slice A r2.1.length c),(20,.slice A_5 r5.1.length c_5),(23,.slice A_6 xb.length c_6),(122,.slice A_all_2 zg.length zh),(123,.i (zg.length:Int)),(124,.i (k_2:Int))]) Kr Kr Kr Kr Kr (fun γ=>Kr) (fun _ hM=>hM.perm (px [1,6,0,2,3,4,5,7])) (fun γ=>Kr) ?_ ?_
        ·skip
         exact Steps.run (i:=0) 4 [0,0,0,0] Mr36_ Kr Kr (fun S (γ:Nat×AN) w hM=>by rw[mS3 rfl rfl rfl] at hM;exact hM.sub (Zl (Zl (Zl (aB _))))) Kr (fun (γ:Nat×AN)=>{}) (WG (i:=4) (fun (γ:Nat×AN)=>sV (Instr.loadAt 116 (.pt b_t 6))) (some 200) (fun (γ:Nat×AN)=>.slice A_xs_ xs_.length za) (fun _=>[Bk b_t (Zi.k (⟨t.rules,xs_,t.next,time⟩:Zi) A_xs_ za) 118]++Mr36_) Kr (fun S (γ:Nat×AN) w hi hd hu hM=>by rw[mS3 rfl rfl (lat (hu 4 10 Kr) hi)] at hM;exact hM.sub (Zl (Zl (Nu (aB _))))) (fun (γ:Nat×AN) w hM=>Ky (j:=0) hM _ _ [(b_t,b_t)] Kr (by intro p hp;rw[bE.1 hp])) (fun (γ:Nat×AN)=>Kr) (fun (γ:Nat×AN)=>Kr) (Steps.run (i:=5) 6 [0] Mr36_ Kr Kr (fun S (γ:Nat×AN) w hM=>by rw[mS3 rfl rfl rfl] at hM;exact hM.sub (Zl (Zl (Zl (aB _))))) Kr (fun (γ:Nat×AN)=>{}) (Steps.op (i:=6) (Γ:=Nat) (fun g (γ:Nat×AN)=>(g,γ.2)) (fun _=>[]) (fun b (γ:Nat×AN)=>[Bk b (followed.c x_3) 122]) (fun S (γ:Nat×AN)=>(bif S 7 then [Ow (γ.2.1) (γ.2.2) 122 23 ((xs_++([x_3])).map followed.c)] else [Ow A_xs_ za 122 23 (xs_.map followed.c)])++((bif S 10 then [Bk b_t (Zi.k (⟨t.rules,(xs_++([x_3])),t.next,time⟩:Zi) (γ.2.1) (γ.2.2)) 118] else [Bk b_t (Zi.k (⟨t.rules,xs_,t.next,time⟩:Zi) A_xs_ za) 118])++(Mr36_))) [6,7,8,9,10] (fun (γ:Nat×AN)=>sV (Instr.buildSlice 116 1 #[(0,followed.v x_3)])) (some 202) (fun b (γ:Nat×AN)=>.slice (Pa b) 1 1) (fun S (γ:Nat×AN) hj hd hl=>by rw[mS3 hj rfl rfl];exact aC _) (fun S (γ:Nat×AN) g _=>(aC _).symm) (fun (γ:Nat×AN) M' w hM=>Q4 (v:=fun b=>.slice (Pa b) 1 1) (fun b M=>Kr) M' w hM) (fun (γ:Nat×AN)=>Kr) (fun (γ:Nat×AN) g=>Kr) Kr (fun (γ:Nat×AN) g=>Kr) (Vi (i:=7) (Γ:=AN) (fun g (γ:Nat×AN)=>(γ.1,g)) (fun (γ:Nat×AN)=>[Ow A_xs_ za 122 23 (xs_.map followed.c),Bk γ.1 (followed.c x_3) 122]) (fun g (γ:Nat×AN)=>[Ow (g.1) (g.2) 122 23 ((xs_++([x_3])).map followed.c),Bk γ.1 (followed.c x_3) 122]) (fun S (γ:Nat×AN)=>(bif S 10 then [Bk b_t (Zi.k (⟨t.rules,(xs_++([x_3])),t.next,time⟩:Zi) (γ.2.1) (γ.2.2)) 118] else [Bk b_t (Zi.k (⟨t.rules,xs_,t.next,time⟩:Zi) A_xs_ za) 118])++(Mr36_)) [7,8,9,10] (fun (γ:Nat×AN)=>sV (Builtin.append_ #[116,116] 116 #[.slice A_xs_ xs_.length za,.slice (Pa γ.1) 1 1])) (some 203) (fun g (γ:Nat×AN)=>.slice (g.1) ((xs_++([x_3])).length) (g.2)) (fun S (γ:Nat×AN) hj hd hl=>by change List.Perm (((bif S 6 then [Bk γ.1 (followed.c x_3) 122] else [])++((bif S 7 then [Ow (γ.2.1) (γ.2.2) 122 23 ((xs_++([x_3])).map followed.c)] else [Ow A_xs_ za 122 23 (xs_.map followed.c)])++((bif S 10 then [Bk b_t (Zi.k (⟨t.rules,(xs_++([x_3])),t.next,time⟩:Zi) (γ.2.1) (γ.2.2)) 118] else [Bk b_t (Zi.k (⟨t.rules,xs_,t.next,time⟩:Zi) A_xs_ za) 118])++(Mr36_)))):Mem) _;rw[hj,hd 6 Kr];exact((aA _ (aC _)).trans (ZC _ _ _)).trans (aA _ ((aC _).trans (aA _ (aC _))))) (fun S (γ:Nat×AN) g _ hd hl=>by change List.Perm ([Ow (g.1) (g.2) 122 23 ((xs_++([x_3])).map followed.c)]++([Bk γ.1 (followed.c x_3) 122]++((bif S 10 then [Bk b_t (Zi.k (⟨t.rules,(xs_++([x_3])),t.next,time⟩:Zi) (γ.2.1) (γ.2.2)) 118] else [Bk b_t (Zi.k (⟨t.rules,xs_,t.next,time⟩:Zi) A_xs_ za) 118])++(Mr36_)))) (((bif S 6 then [Bk γ.1 (followed.c x_3) 122] else [])++((bif true then [Ow (g.1) (g.2) 122 23 ((xs_++([x_3])).map followed.c)] else [Ow A_xs_ za 122 23 (xs_.map followed.c)])++((bif S 10 then [Bk b_t (Zi.k (⟨t.rules,(xs_++([x_3])),t.next,time⟩:Zi) (g.1) (g.2)) 118] else [Bk b_t (Zi.k (⟨t.rules,xs_,t.next,time⟩:Zi) A_xs_ za) 118])++(Mr36_)))):Mem);rw[hd 6 Kr,hl 10 Kr];exact(((aA _ (aC _)).trans (ZC _ _ _)).trans (aA _ ((aC _).trans (aA _ (aC _))))).symm) (fun (γ:Nat×AN) M' w hM=>QE (bytes:=184) 116 0 ([x_3]) Kr rfl rfl followed.one rfl (fun w hM=>(Rd.lit hM 1 _ rfl Kr Kr Kr)) rfl (by (try have kx_:=Xu kb_.2 (show k_2<_ by omega));exact sa) w hM) (fun (γ:Nat×AN)=>Kr) (fun (γ:Nat×AN) g=>Kr) Kr (fun (γ:Nat×AN) g=>Kr) (Steps.run (i:=8) 10 [0,0] Mr36_ Kr Kr (fun S (γ:Nat×AN) w hM=>by rw[mS3 rfl rfl rfl] at hM;exact hM.sub (Zl (Zl (Zl (aB _))))) Kr (fun (γ:Nat×AN)=>{}) (Steps.put (i:=10) (fun (γ:Nat×AN)=>[Bk b_t (Zi.k (⟨t.rules,xs_,t.next,time⟩:Zi) A_xs_ za) 118]) (fun (γ:Nat×AN)=>[Bk b_t (Zi.k (⟨t.rules,(xs_++([x_3])),t.next,time⟩:Zi) (γ.2.1) (γ.2.2)) 118]) (fun S (γ:Nat×AN)=>(bif S 6 then [Bk γ.1 (followed.c x_3) 122] else [])++((bif S 7 then [Ow (γ.2.1) (γ.2.2) 122 23 ((xs_++([x_3])).map followed.c)] else [Ow A_xs_ za 122 23 (xs_.map followed.c)])++(Mr36_))) (fun (γ:Nat×AN)=>sU (Instr.storeAt 116 (.pt b_t 6) (.slice (γ.2.1) ((xs_++([x_3])).length) (γ.2.2)))) none (fun S (γ:Nat×AN) hj hd hl=>by rw[mS3 rfl rfl hj];exact(aA _ ((aA _ (aC _)).trans (ZC _ _ _))).trans (ZC _ _ _)) (fun S (γ:Nat×AN) _=>((aA _ ((aA _ (aC _)).trans (ZC _ _ _))).trans (ZC _ _ _)).symm) (fun (γ:Nat×AN) M' w hM=>JB (fun b M=>Kr) (fun b M=>Kr) M' w hM) (fun (γ:Nat×AN)=>Kr) (fun (γ:Nat×AN)=>Kr) (X6 Kr)))))))
        ·rintro⟨b9,⟨A_8,c_8⟩⟩
         exact Yi [Bk b9 (followed.c x_3) 122,Ow A_8 c_8 122 23 ((xs_++([x_3])).map followed.c),Bk b_t (Zi.k (⟨t.rules,(xs_++([x_3])),t.next,time⟩:Zi) A_8 c_8) 118,Bk b5 (followed.c x_3) 122,Ow A_6 c_6 4 1 (xb.map bc),Ow A_5 c_5 3 1 (r5.1.map ic),Ow A_all_2 zh 122 23 (zg.map followed.c),Ow A c 42 6 (r2.1.map Zj.c),Ow A_l c_l 42 6 (l.map Zj.c)] (fun _ hM=>hM) (ZY (Z3 (TC.region (Zc 2 [] [(124,.i (w64 ((k_2:Int)+1)))] {} (Zw rfl (Yi [Ow A_8 c_8 122 23 ((xs_++([x_3])).map followed.c),Ow A_6 c_6 4 1 (xb.map bc),Ow A_5 c_5 3 1 (r5.1.map ic),Ow A_all_2 zh 122 23 (zg.map followed.c),Ow A c 42 6 (r2.1.map Zj.c),Bk b_t (Zi.k (⟨t.rules,(xs_++([x_3])),t.next,time⟩:Zi) A_8 c_8) 118,Ow A_l c_l 42 6 (l.map Zj.c),Bk b9 (followed.c x_3) 122,Bk b5 (followed.c x_3) 122] (fun _ hM=>hM.perm (px [1,4,5,6,7,2,8,0,3])) (TE.rw 124 (.i (w64 ((k_2:Int)+1))) (.i ((k_2+1:Nat):Int)) Kr (ZD k_2 (by (try have kx_:=Xu kb_.2 (show k_2<_ by omega));omega)) (Z4 (x:=(k_2,used,xs_,A_xs_,za)) (k_2+1,xb,(xs_++([x_3])),A_8,c_8) ⟨by omega,xg.trans (by subst hr1 hr2 hr4 hr5;rw[zr];exact Yr (gg) (Ze h8 (rfl))),(by (try have kx_:=Xu kb_.2 (show k_2<_ by omega));exact sl),(by (try have kx_:=Xu kb_.2 (show k_2<_ by omega));exact sl)⟩ (mN zk) Kr (sb 127)))))))))
     ·have zr:=Qb h5
      refine TC.exit (ZT (ZT (Z0 ?_)))
      exact TE.cut (used,xs_,A_xs_,za) (⟨xg.trans (by subst hr1 hr2 hr4 hr5;rw[zr];exact rfl),(by (try have kx_:=Xu kb_.2 (show k_2<_ by omega));exact sl),(by (try have kx_:=Xu kb_.2 (show k_2<_ by omega));exact sl)⟩) Kr (sb 115)
    ·rintro⟨zw,ja,A_xs__2,jh⟩ ⟨gv,df,dx⟩
     refine Z3 (TC.seq (Zf (Zc 3 [] [(207,.slice A r2.1.length c),(208,.i (r2.1.length:Int)),(209,.i 0)] {} (Zb rfl ?_))))
     obtain⟨R12,yd⟩:∃ R,R=ZQ zw r2.1 0 t.next ja:=⟨_,rfl⟩
     refine TC.cut (S:=Int×(List followed)×(Option Addr)×Nat) (fun (zx,vq,A_xs__4,vu)=>[(0,.p0 b_t),(2,.i time)]) (fun (zx,vq,A_xs__4,vu)=>[Ow A_xs__4 vu 122 23 (vq.map followed.c),Bk b_t (Zi.k (⟨t.rules,vq,zx,time⟩:Zi) A_xs__4 vu) 118,Ow A_l c_l 42 6 (l.map Zj.c)]) (fun (zx,vq,A_xs__4,vu)=>R12=(zx,vq)∧vq.length≤ja.length+r2.1.length) ?_ ?_
     ·refine TC.block (Xp (X:=Nat×Int×(List followed)×(Option Addr)×Nat) (fun (k_3,next,zf,A_xs__3,z7)=>[(0,.p0 b_t),(2,.i time),(23,.slice A_6 zw.length c_6),(207,.slice A r2.1.length c),(208,.i (r2.1.length:Int)),(209,.i (k_3:Int))]) (fun (k_3,next,zf,A_xs__3,z7)=>[Ow A_xs__3 z7 122 23 (zf.map followed.c),Ow A_6 c_6 4 1 (zw.map bc),Ow A c 42 6 (r2.1.map Zj.c),Bk b_t (Zi.k (⟨t.rules,zf,next,time⟩:Zi) A_xs__3 z7) 118,Ow A_l c_l 42 6 (l.map Zj.c)]) (fun (k_3,next,zf,A_xs__3,z7)=>r2.1.length-k_3) (fun (k_3,next,zf,A_xs__3,z7)=>k_3≤r2.1.length∧R12=ZQ zw (r2.1.drop k_3) k_3 next zf∧zf.length≤ja.length+k_3) ?_ (0,t.next,ja,A_xs__2,jh) ⟨aP _,yd,sz⟩ Kr (sb 31))
      rintro⟨k_3,next,zf,A_xs__3,z7⟩ ⟨ln,kr,iu⟩
      refine Zf (Zc 1 [] [(210,.b (decide ((k_3:Int)<(r2.1.length:Int))))] {} (Z1 (TC.cond (decide ((k_3:Int)<(r2.1.length:Int))) rfl Kr (fun h10=>?_) (fun h10=>?_))))
      ·have kx:=ltN h10
       obtain⟨x_4,pz⟩:=elN kx
       have ky:=drop_at pz
       refine Yg (TC.seq (TC.block (Zf (Zc 1 [] [(211,.i (k_3:Int))] {} (TL.v (sV (Instr.indexAt 52 (.slice A r2.1.length c) (.i (k_3:Int)))) 212 (.pointer (some (Ix A (k_3*6)))) (fun w hM=>Zr (hM.rd_at 2 rfl) (by simp) Kr (by (try have kx_:=Xu kb_.2 (show k_2<_ by omega));exact sd) (by (try have kx_:=Xu kb_.2 (show k_2<_ by omega));exact sd)) {} (TL.v (sV (Instr.loadAt 42 (.pointer (some (Ix A (k_3*6)))))) 213 (Zj.v x_4) (fun w hM=>Z9 (n:=6) (off:=0) (i:=k_3) (Zj.v x_4) (hM.rd_at 2 rfl) (Z6 pz) Kr Kr Kr) {} (ZA 33 (fun b10=>.p0 b10) (fun b10=>Bk b10 (Zj.c Zj.zero) 42) (fun b10=>{}) (fun b10=>Zc 5 [] [(32,.i (k_3:Int))] {} (Yp 0 (Bk b10 (Zj.c x_4) 42) (fun _=>{}) (Z1 (Zf (Zc 2 [] [(214,.slice A_6 zw.length c_6),(215,.i (k_3:Int))] {} (TL.v (sV (Instr.indexAt 137 (.slice A_6 zw.length c_6) (.i (k_3:Int)))) 216 (.pointer (some (Ix A_6 (k_3*1)))) (fun w hM=>Zr (hM.rd_at 2 rfl) (by simp) Kr (by (try have kx_:=Xu kb_.2 (show k_2<_ by omega));exact sd) (by (try have kx_:=Xu kb_.2 (show k_2<_ by omega));exact sd)) {} (TL.v (sV (Instr.loadAt 4 (.pointer (some (Ix A_6 (k_3*1)))))) 217 (.b ((zw[k_3]?.getD false))) (fun w hM=>Zu (off:=0) (i:=k_3) (.b ((zw[k_3]?.getD false))) (hM.rd_at 2 rfl) (Z6 (getD_at _ _ false (by (try have kx_:=Xu kb_.2 (show k_2<_ by omega));exact sd))) Kr Kr) {} (Zc 5 [] [(218,.b ((zw[k_3]?.getD false)))] {} (XM 218 ((zw[k_3]?.getD false)) 12 [] [4] (fun β=>[(225,.b (β||(decide ((zf.length:Int)≥32))))]) Kr {} {} (Zb rfl (TC.cond (((zw[k_3]?.getD false))||(decide ((zf.length:Int)≥32))) rfl Kr (fun h11=>?_) (fun h11=>?_)))))))))))))))))))
       ·refine TC.exit (ZT (Z0 ?_))
        exact Z3 (TC.region (Zc 2 [] [(209,.i (w64 ((k_3:Int)+1)))] {} (Zw rfl (TE.rw 209 (.i (w64 ((k_3:Int)+1))) (.i ((k_3+1:Nat):Int)) Kr (ZD k_3 (by (try have kx_:=Xu kb_.2 (show k_2<_ by omega));omega)) (Z4 (x:=(k_3,next,zf,A_xs__3,z7)) (k_3+1,next,zf,A_xs__3,z7) ⟨by omega,kr.trans (by subst hr1 hr2 hr4 hr5;rw[ky];exact Zm h11 (rfl)),(by (try have kx_:=Xu kb_.2 (show k_2<_ by omega));exact sl)⟩ (mN kx) Kr (sb 62))))))
       ·have tp:=(Zv (Ye h11))
        refine Yc (Zc 1 [0] [(227,Zj.v x_4)] {} (TL.c 228 (Y8 x_4) (fun r9=>.tuple #[Za.v r9.1,.i r9.2]) (fun w _=>BN x_4 w) {} (fun r9 hr9=>Zc 5 [] [(229,Za.v r9.1),(230,.i r9.2)] {} (ZA 34 (fun b11=>.p0 b11) (fun b11=>Bk b11 (Za.c Za.zero) 44) (fun b11=>{}) (fun b11=>Yp 0 (Bk b11 (Za.c r9.1) 44) (fun _=>{}) (Zc 8 [] [] {} (Zz (Zc 6 [5] [(234,.i next),(236,.p0 b11)] {} (Yp 0 (Bk b11 (Za.c (⟨⟨next,r9.1.Track.State,r9.1.Track.Time,r9.1.Track.At,r9.1.Track.Speed,r9.1.Track.Height,r9.1.Track.Rate,r9.1.Track.Radius,r9.1.Track.Code,r9.1.Track.Hits,r9.1.Track.Misses⟩,r9.1.Slack,r9.1.Last⟩:Za)) 44) (fun _=>{}) (Zz (Zc 7 [5] [(241,.i (w64 (next+1))),(243,.pt b_t 7)] {} (Yp 5 (Bk b_t (Zi.k (⟨t.rules,zf,w64 (next+1),time⟩:Zi) A_xs__3 z7) 118) (fun _=>{}) (Zb rfl ?_)))))))))))))
        let Mr45_:Mem:=[Bk b11 (Za.c (⟨⟨next,r9.1.Track.State,r9.1.Track.Time,r9.1.Track.At,r9.1.Track.Speed,r9.1.Track.Height,r9.1.Track.Rate,r9.1.Track.Radius,r9.1.Track.Code,r9.1.Track.Hits,r9.1.Track.Misses⟩,r9.1.Slack,r9.1.Last⟩:Za)) 44,Bk b10 (Zj.c x_4) 42,Ow A_6 c_6 4 1 (zw.map bc),Ow A c 42 6 (r2.1.map Zj.c),Ow A_l c_l 42 6 (l.map Zj.c)]
        refine Jm (G:=Nat×AN) (base:=[(0,.p0 b_t),(2,.i time),(23,.slice A_6 zw.length c_6),(34,.p0 b11),(207,.slice A r2.1.length c),(208,.i (r2.1.length:Int)),(209,.i (k_3:Int))]) (vals:=fun γ=>[.p0 b_t,.p0 b_t,.p0 b_t,.pt b_t 6,.slice A_xs__3 zf.length z7,Za.v (⟨⟨next,r9.1.Track.State,r9.1.Track.Time,r9.1.Track.At,r9.1.Track.Speed,r9.1.Track.Height,r9.1.Track.Rate,r9.1.Track.Radius,r9.1.Track.Code,r9.1.Track.Hits,r9.1.Track.Misses⟩,r9.1.Slack,r9.1.Last⟩:Za),followed.v (⟨⟨⟨next,r9.1.Track.State,r9.1.Track.Time,r9.1.Track.At,r9.1.Track.Speed,r9.1.Track.Height,r9.1.Track.Rate,r9.1.Track.Radius,r9.1.Track.Code,r9.1.Track.Hits,r9.1.Track.Misses⟩,r9.1.Slack,r9.1.Last⟩,⟨0,0⟩,true⟩:followed),.slice (Pa γ.1) 1 1,.slice (γ.2.1) ((zf++([(⟨⟨⟨next,r9.1.Track.State,r9.1.Track.Time,r9.1.Track.At,r9.1.Track.Speed,r9.1.Track.Height,r9.1.Track.Rate,r9.1.Track.Radius,r9.1.Track.Code,r9.1.Track.Hits,r9.1.Track.Misses⟩,r9.1.Slack,r9.1.Last⟩,⟨0,0⟩,true⟩:followed)])).length) (γ.2.2),.p0 b_t,.pt b_t 6,undef]) (writes:=[7,8,11]) (mem:=fun bs γ=>match bs with | [x7_,x8_,fm]=>(bif x7_ then [Bk γ.1 (followed.c (⟨⟨⟨next,r9.1.Track.State,r9.1.Track.Time,r9.1.Track.At,r9.1.Track.Speed,r9.1.Track.Height,r9.1.Track.Rate,r9.1.Track.Radius,r9.1.Track.Code,r9.1.Track.Hits,r9.1.Track.Misses⟩,r9.1.Slack,r9.1.Last⟩,⟨0,0⟩,true⟩:followed)) 122] else [])++((bif x8_ then [Ow (γ.2.1) (γ.2.2) 122 23 ((zf++([(⟨⟨⟨next,r9.1.Track.State,r9.1.Track.Time,r9.1.Track.At,r9.1.Track.Speed,r9.1.Track.Height,r9.1.Track.Rate,r9.1.Track.Radius,r9.1.Track.Code,r9.1.Track.Hits,r9.1.Track.Misses⟩,r9.1.Slack,r9.1.Last⟩,⟨0,0⟩,true⟩:followed)])).map followed.c)] else [Ow A_xs__3 z7 122 23 (zf.map followed.c)])++((bif fm then [Bk b_t (Zi.k (⟨t.rules,(zf++([(⟨⟨⟨next,r9.1.Track.State,r9.1.Track.Time,r9.1.Track.At,r9.1.Track.Speed,r9.1.Track.Height,r9.1.Track.Rate,r9.1.Track.Radius,r9.1.Track.Code,r9.1.Track.Hits,r9.1.Track.Misses⟩,r9.1.Slack,r9.1.Last⟩,⟨0,0⟩,true⟩:followed)])),w64 (next+1),time⟩:Zi) (γ.2.1) (γ.2.2)) 118] else [Bk b_t (Zi.k (⟨t.rules,zf,w64 (next+1),time⟩:Zi) A_xs__3 z7) 118])++(Mr45_)))|_=>[]) (0,(none,0)) (fun γ=>[(0,.p0 b_t),(2,.i time),(23,.slice A_6 zw.length c_6),(207,.slice A r2.1.length c),(208,.i (r2.1.length:Int)),(209,.i (k_3:Int))]) Kr Kr Kr Kr Kr (fun γ=>Kr) (fun _ hM=>hM.perm (px [2,5,0,1,3,4,6])) (fun γ=>Kr) ?_ ?_
        ·skip
         exact Steps.run (i:=0) 4 [0,0,0,0] Mr45_ Kr Kr (fun S (γ:Nat×AN) w hM=>by rw[mS3 rfl rfl rfl] at hM;exact hM.sub (Zl (Zl (Zl (aB _))))) Kr (fun (γ:Nat×AN)=>{}) (WG (i:=4) (fun (γ:Nat×AN)=>sV (Instr.loadAt 116 (.pt b_t 6))) (some 248) (fun (γ:Nat×AN)=>.slice A_xs__3 zf.length z7) (fun _=>[Bk b_t (Zi.k (⟨t.rules,zf,w64 (next+1),time⟩:Zi) A_xs__3 z7) 118]++Mr45_) Kr (fun S (γ:Nat×AN) w hi hd hu hM=>by rw[mS3 rfl rfl (lat (hu 4 11 Kr) hi)] at hM;exact hM.sub (Zl (Zl (Nu (aB _))))) (fun (γ:Nat×AN) w hM=>Ky (j:=0) hM _ _ [(b_t,b_t)] Kr (by intro p hp;rw[bE.1 hp])) (fun (γ:Nat×AN)=>Kr) (fun (γ:Nat×AN)=>Kr) (Steps.run (i:=5) 7 [0,0] Mr45_ Kr Kr (fun S (γ:Nat×AN) w hM=>by rw[mS3 rfl rfl rfl] at hM;exact hM.sub (Zl (Zl (Zl (aB _))))) Kr (fun (γ:Nat×AN)=>{}) (Steps.op (i:=7) (Γ:=Nat) (fun g (γ:Nat×AN)=>(g,γ.2)) (fun _=>[]) (fun b (γ:Nat×AN)=>[Bk b (followed.c (⟨⟨⟨next,r9.1.Track.State,r9.1.Track.Time,r9.1.Track.At,r9.1.Track.Speed,r9.1.Track.Height,r9.1.Track.Rate,r9.1.Track.Radius,r9.1.Track.Code,r9.1.Track.Hits,r9.1.Track.Misses⟩,r9.1.Slack,r9.1.Last⟩,⟨0,0⟩,true⟩:followed)) 122]) (fun S (γ:Nat×AN)=>(bif S 8 then [Ow (γ.2.1) (γ.2.2) 122 23 ((zf++([(⟨⟨⟨next,r9.1.Track.State,r9.1.Track.Time,r9.1.Track.At,r9.1.Track.Speed,r9.1.Track.Height,r9.1.Track.Rate,r9.1.Track.Radius,r9.1.Track.Code,r9.1.Track.Hits,r9.1.Track.Misses⟩,r9.1.Slack,r9.1.Last⟩,⟨0,0⟩,true⟩:followed)])).map followed.c)] else [Ow A_xs__3 z7 122 23 (zf.map followed.c)])++((bif S 11 then [Bk b_t (Zi.k (⟨t.rules,(zf++([(⟨⟨⟨next,r9.1.Track.State,r9.1.Track.Time,r9.1.Track.At,r9.1.Track.Speed,r9.1.Track.Height,r9.1.Track.Rate,r9.1.Track.Radius,r9.1.Track.Code,r9.1.Track.Hits,r9.1.Track.Misses⟩,r9.1.Slack,r9.1.Last⟩,⟨0,0⟩,true⟩:followed)])),w64 (next+1),time⟩:Zi) (γ.2.1) (γ.2.2)) 118] else [Bk b_t (Zi.k (⟨t.rules,zf,w64 (next+1),time⟩:Zi) A_xs__3 z7) 118])++(Mr45_))) [7,8,9,10,11] (fun (γ:Nat×AN)=>sV (Instr.buildSlice 116 1 #[(0,followed.v (⟨⟨⟨next,r9.1.Track.State,r9.1.Track.Time,r9.1.Track.At,r9.1.Track.Speed,r9.1.Track.Height,r9.1.Track.Rate,r9.1.Track.Radius,r9.1.Track.Code,r9.1.Track.Hits,r9.1.Track.Misses⟩,r9.1.Slack,r9.1.Last⟩,⟨0,0⟩,true⟩:followed))])) (some 251) (fun b (γ:Nat×AN)=>.slice (Pa b) 1 1) (fun S (γ:Nat×AN) hj hd hl=>by rw[mS3 hj rfl rfl];exact aC _) (fun S (γ:Nat×AN) g _=>(aC _).symm) (fun (γ:Nat×AN) M' w hM=>Q4 (v:=fun b=>.slice (Pa b) 1 1) (fun b M=>Kr) M' w hM) (fun (γ:Nat×AN)=>Kr) (fun (γ:Nat×AN) g=>Kr) Kr (fun (γ:Nat×AN) g=>Kr) (Vi (i:=8) (Γ:=AN) (fun g (γ:Nat×AN)=>(γ.1,g)) (fun (γ:Nat×AN)=>[Ow A_xs__3 z7 122 23 (zf.map followed.c),Bk γ.1 (followed.c (⟨⟨⟨next,r9.1.Track.State,r9.1.Track.Time,r9.1.Track.At,r9.1.Track.Speed,r9.1.Track.Height,r9.1.Track.Rate,r9.1.Track.Radius,r9.1.Track.Code,r9.1.Track.Hits,r9.1.Track.Misses⟩,r9.1.Slack,r9.1.Last⟩,⟨0,0⟩,true⟩:followed)) 122]) (fun g (γ:Nat×AN)=>[Ow (g.1) (g.2) 122 23 ((zf++([(⟨⟨⟨next,r9.1.Track.State,r9.1.Track.Time,r9.1.Track.At,r9.1.Track.Speed,r9.1.Track.Height,r9.1.Track.Rate,r9.1.Track.Radius,r9.1.Track.Code,r9.1.Track.Hits,r9.1.Track.Misses⟩,r9.1.Slack,r9.1.Last⟩,⟨0,0⟩,true⟩:followed)])).map followed.c),Bk γ.1 (followed.c (⟨⟨⟨next,r9.1.Track.State,r9.1.Track.Time,r9.1.Track.At,r9.1.Track.Speed,r9.1.Track.Height,r9.1.Track.Rate,r9.1.Track.Radius,r9.1.Track.Code,r9.1.Track.Hits,r9.1.Track.Misses⟩,r9.1.Slack,r9.1.Last⟩,⟨0,0⟩,true⟩:followed)) 122]) (fun S (γ:Nat×AN)=>(bif S 11 then [Bk b_t (Zi.k (⟨t.rules,(zf++([(⟨⟨⟨next,r9.1.Track.State,r9.1.Track.Time,r9.1.Track.At,r9.1.Track.Speed,r9.1.Track.Height,r9.1.Track.Rate,r9.1.Track.Radius,r9.1.Track.Code,r9.1.Track.Hits,r9.1.Track.Misses⟩,r9.1.Slack,r9.1.Last⟩,⟨0,0⟩,true⟩:followed)])),w64 (next+1),time⟩:Zi) (γ.2.1) (γ.2.2)) 118] else [Bk b_t (Zi.k (⟨t.rules,zf,w64 (next+1),time⟩:Zi) A_xs__3 z7) 118])++(Mr45_)) [8,9,10,11] (fun (γ:Nat×AN)=>sV (Builtin.append_ #[116,116] 116 #[.slice A_xs__3 zf.length z7,.slice (Pa γ.1) 1 1])) (some 252) (fun g (γ:Nat×AN)=>.slice (g.1) ((zf++([(⟨⟨⟨next,r9.1.Track.State,r9.1.Track.Time,r9.1.Track.At,r9.1.Track.Speed,r9.1.Track.Height,r9.1.Track.Rate,r9.1.Track.Radius,r9.1.Track.Code,r9.1.Track.Hits,r9.1.Track.Misses⟩,r9.1.Slack,r9.1.Last⟩,⟨0,0⟩,true⟩:followed)])).length) (g.2)) (fun S (γ:Nat×AN) hj hd hl=>by change List.Perm (((bif S 7 then [Bk γ.1 (followed.c (⟨⟨⟨next,r9.1.Track.State,r9.1.Track.Time,r9.1.Track.At,r9.1.Track.Speed,r9.1.Track.Height,r9.1.Track.Rate,r9.1.Track.Radius,r9.1.Track.Code,r9.1.Track.Hits,r9.1.Track.Misses⟩,r9.1.Slack,r9.1.Last⟩,⟨0,0⟩,true⟩:followed)) 122] else [])++((bif S 8 then [Ow (γ.2.1) (γ.2.2) 122 23 ((zf++([(⟨⟨⟨next,r9.1.Track.State,r9.1.Track.Time,r9.1.Track.At,r9.1.Track.Speed,r9.1.Track.Height,r9.1.Track.Rate,r9.1.Track.Radius,r9.1.Track.Code,r9.1.Track.Hits,r9.1.Track.Misses⟩,r9.1.Slack,r9.1.Last⟩,⟨0,0⟩,true⟩:followed)])).map followed.c)] else [Ow A_xs__3 z7 122 23 (zf.map followed.c)])++((bif S 11 then [Bk b_t (Zi.k (⟨t.rules,(zf++([(⟨⟨⟨next,r9.1.Track.State,r9.1.Track.Time,r9.1.Track.At,r9.1.Track.Speed,r9.1.Track.Height,r9.1.Track.Rate,r9.1.Track.Radius,r9.1.Track.Code,r9.1.Track.Hits,r9.1.Track.Misses⟩,r9.1.Slack,r9.1.Last⟩,⟨0,0⟩,true⟩:followed)])),w64 (next+1),time⟩:Zi) (γ.2.1) (γ.2.2)) 118] else [Bk b_t (Zi.k (⟨t.rules,zf,w64 (next+1),time⟩:Zi) A_xs__3 z7) 118])++(Mr45_)))):Mem) _;rw[hj,hd 7 Kr];exact((aA _ (aC _)).trans (ZC _ _ _)).trans (aA _ ((aC _).trans (aA _ (aC _))))) (fun S (γ:Nat×AN) g _ hd hl=>by change List.Perm ([Ow (g.1) (g.2) 122 23 ((zf++([(⟨⟨⟨next,r9.1.Track.State,r9.1.Track.Time,r9.1.Track.At,r9.1.Track.Speed,r9.1.Track.Height,r9.1.Track.Rate,r9.1.Track.Radius,r9.1.Track.Code,r9.1.Track.Hits,r9.1.Track.Misses⟩,r9.1.Slack,r9.1.Last⟩,⟨0,0⟩,true⟩:followed)])).map followed.c)]++([Bk γ.1 (followed.c (⟨⟨⟨next,r9.1.Track.State,r9.1.Track.Time,r9.1.Track.At,r9.1.Track.Speed,r9.1.Track.Height,r9.1.Track.Rate,r9.1.Track.Radius,r9.1.Track.Code,r9.1.Track.Hits,r9.1.Track.Misses⟩,r9.1.Slack,r9.1.Last⟩,⟨0,0⟩,true⟩:followed)) 122]++((bif S 11 then [Bk b_t (Zi.k (⟨t.rules,(zf++([(⟨⟨⟨next,r9.1.Track.State,r9.1.Track.Time,r9.1.Track.At,r9.1.Track.Speed,r9.1.Track.Height,r9.1.Track.Rate,r9.1.Track.Radius,r9.1.Track.Code,r9.1.Track.Hits,r9.1.Track.Misses⟩,r9.1.Slack,r9.1.Last⟩,⟨0,0⟩,true⟩:followed)])),w64 (next+1),time⟩:Zi) (γ.2.1) (γ.2.2)) 118] else [Bk b_t (Zi.k (⟨t.rules,zf,w64 (next+1),time⟩:Zi) A_xs__3 z7) 118])++(Mr45_)))) (((bif S 7 then [Bk γ.1 (followed.c (⟨⟨⟨next,r9.1.Track.State,r9.1.Track.Time,r9.1.Track.At,r9.1.Track.Speed,r9.1.Track.Height,r9.1.Track.Rate,r9.1.Track.Radius,r9.1.Track.Code,r9.1.Track.Hits,r9.1.Track.Misses⟩,r9.1.Slack,r9.1.Last⟩,⟨0,0⟩,true⟩:followed)) 122] else [])++((bif true then [Ow (g.1) (g.2) 122 23 ((zf++([(⟨⟨⟨next,r9.1.Track.State,r9.1.Track.Time,r9.1.Track.At,r9.1.Track.Speed,r9.1.Track.Height,r9.1.Track.Rate,r9.1.Track.Radius,r9.1.Track.Code,r9.1.Track.Hits,r9.1.Track.Misses⟩,r9.1.Slack,r9.1.Last⟩,⟨0,0⟩,true⟩:followed)])).map followed.c)] else [Ow A_xs__3 z7 122 23 (zf.map followed.c)])++((bif S 11 then [Bk b_t (Zi.k (⟨t.rules,(zf++([(⟨⟨⟨next,r9.1.Track.State,r9.1.Track.Time,r9.1.Track.At,r9.1.Track.Speed,r9.1.Track.Height,r9.1.Track.Rate,r9.1.Track.Radius,r9.1.Track.Code,r9.1.Track.Hits,r9.1.Track.Misses⟩,r9.1.Slack,r9.1.Last⟩,⟨0,0⟩,true⟩:followed)])),w64 (next+1),time⟩:Zi) (g.1) (g.2)) 118] else [Bk b_t (Zi.k (⟨t.rules,zf,w64 (next+1),time⟩:Zi) A_xs__3 z7) 118])++(Mr45_)))):Mem);rw[hd 7 Kr,hl 11 Kr];exact(((aA _ (aC _)).trans (ZC _ _ _)).trans (aA _ ((aC _).trans (aA _ (aC _))))).symm) (fun (γ:Nat×AN) M' w hM=>QE (bytes:=184) 116 0 ([(⟨⟨⟨next,r9.1.Track.State,r9.1.Track.Time,r9.1.Track.At,r9.1.Track.Speed,r9.1.Track.Height,r9.1.Track.Rate,r9.1.Track.Radius,r9.1.Track.Code,r9.1.Track.Hits,r9.1.Track.Misses⟩,r9.1.Slack,r9.1.Last⟩,⟨0,0⟩,true⟩:followed)]) Kr rfl rfl followed.one rfl (fun w hM=>(Rd.lit hM 1 _ rfl Kr Kr Kr)) rfl (by (try have kx_:=Xu kb_.2 (show k_2<_ by omega));exact sa) w hM) (fun (γ:Nat×AN)=>Kr) (fun (γ:Nat×AN) g=>Kr) Kr (fun (γ:Nat×AN) g=>Kr) (Steps.run (i:=9) 11 [0,0] Mr45_ Kr Kr (fun S (γ:Nat×AN) w hM=>by rw[mS3 rfl rfl rfl] at hM;exact hM.sub (Zl (Zl (Zl (aB _))))) Kr (fun (γ:Nat×AN)=>{}) (Steps.put (i:=11) (fun (γ:Nat×AN)=>[Bk b_t (Zi.k (⟨t.rules,zf,w64 (next+1),time⟩:Zi) A_xs__3 z7) 118]) (fun (γ:Nat×AN)=>[Bk b_t (Zi.k (⟨t.rules,(zf++([(⟨⟨⟨next,r9.1.Track.State,r9.1.Track.Time,r9.1.Track.At,r9.1.Track.Speed,r9.1.Track.Height,r9.1.Track.Rate,r9.1.Track.Radius,r9.1.Track.Code,r9.1.Track.Hits,r9.1.Track.Misses⟩,r9.1.Slack,r9.1.Last⟩,⟨0,0⟩,true⟩:followed)])),w64 (next+1),time⟩:Zi) (γ.2.1) (γ.2.2)) 118]) (fun S (γ:Nat×AN)=>(bif S 7 then [Bk γ.1 (followed.c (⟨⟨⟨next,r9.1.Track.State,r9.1.Track.Time,r9.1.Track.At,r9.1.Track.Speed,r9.1.Track.Height,r9.1.Track.Rate,r9.1.Track.Radius,r9.1.Track.Code,r9.1.Track.Hits,r9.1.Track.Misses⟩,r9.1.Slack,r9.1.Last⟩,⟨0,0⟩,true⟩:followed)) 122] else [])++((bif S 8 then [Ow (γ.2.1) (γ.2.2) 122 23 ((zf++([(⟨⟨⟨next,r9.1.Track.State,r9.1.Track.Time,r9.1.Track.At,r9.1.Track.Speed,r9.1.Track.Height,r9.1.Track.Rate,r9.1.Track.Radius,r9.1.Track.Code,r9.1.Track.Hits,r9.1.Track.Misses⟩,r9.1.Slack,r9.1.Last⟩,⟨0,0⟩,true⟩:followed)])).map followed.c)] else [Ow A_xs__3 z7 122 23 (zf.map followed.c)])++(Mr45_))) (fun (γ:Nat×AN)=>sU (Instr.storeAt 116 (.pt b_t 6) (.slice (γ.2.1) ((zf++([(⟨⟨⟨next,r9.1.Track.State,r9.1.Track.Time,r9.1.Track.At,r9.1.Track.Speed,r9.1.Track.Height,r9.1.Track.Rate,r9.1.Track.Radius,r9.1.Track.Code,r9.1.Track.Hits,r9.1.Track.Misses⟩,r9.1.Slack,r9.1.Last⟩,⟨0,0⟩,true⟩:followed)])).length) (γ.2.2)))) none (fun S (γ:Nat×AN) hj hd hl=>by rw[mS3 rfl rfl hj];exact(aA _ ((aA _ (aC _)).trans (ZC _ _ _))).trans (ZC _ _ _)) (fun S (γ:Nat×AN) _=>((aA _ ((aA _ (aC _)).trans (ZC _ _ _))).trans (ZC _ _ _)).symm) (fun (γ:Nat×AN) M' w hM=>JB (fun b M=>Kr) (fun b M=>Kr) M' w hM) (fun (γ:Nat×AN)=>Kr) (fun (γ:Nat×AN)=>Kr) (X6 Kr)))))))
        ·rintro⟨b12,⟨A_9,c_9⟩⟩
         exact Yi [Bk b12 (followed.c (⟨⟨⟨next,r9.1.Track.State,r9.1.Track.Time,r9.1.Track.At,r9.1.Track.Speed,r9.1.Track.Height,r9.1.Track.Rate,r9.1.Track.Radius,r9.1.Track.Code,r9.1.Track.Hits,r9.1.Track.Misses⟩,r9.1.Slack,r9.1.Last⟩,⟨0,0⟩,true⟩:followed)) 122,Ow A_9 c_9 122 23 ((zf++([(⟨⟨⟨next,r9.1.Track.State,r9.1.Track.Time,r9.1.Track.At,r9.1.Track.Speed,r9.1.Track.Height,r9.1.Track.Rate,r9.1.Track.Radius,r9.1.Track.Code,r9.1.Track.Hits,r9.1.Track.Misses⟩,r9.1.Slack,r9.1.Last⟩,⟨0,0⟩,true⟩:followed)])).map followed.c),Bk b_t (Zi.k (⟨t.rules,(zf++([(⟨⟨⟨next,r9.1.Track.State,r9.1.Track.Time,r9.1.Track.At,r9.1.Track.Speed,r9.1.Track.Height,r9.1.Track.Rate,r9.1.Track.Radius,r9.1.Track.Code,r9.1.Track.Hits,r9.1.Track.Misses⟩,r9.1.Slack,r9.1.Last⟩,⟨0,0⟩,true⟩:followed)])),w64 (next+1),time⟩:Zi) A_9 c_9) 118,Bk b11 (Za.c (⟨⟨next,r9.1.Track.State,r9.1.Track.Time,r9.1.Track.At,r9.1.Track.Speed,r9.1.Track.Height,r9.1.Track.Rate,r9.1.Track.Radius,r9.1.Track.Code,r9.1.Track.Hits,r9.1.Track.Misses⟩,r9.1.Slack,r9.1.Last⟩:Za)) 44,Bk b10 (Zj.c x_4) 42,Ow A_6 c_6 4 1 (zw.map bc),Ow A c 42 6 (r2.1.map Zj.c),Ow A_l c_l 42 6 (l.map Zj.c)] (fun _ hM=>hM) (ZY (Z3 (TC.region (Zc 2 [] [(209,.i (w64 ((k_3:Int)+1)))] {} (Zw rfl (Yi [Ow A_9 c_9 122 23 ((zf++([(⟨⟨⟨next,r9.1.Track.State,r9.1.Track.Time,r9.1.Track.At,r9.1.Track.Speed,r9.1.Track.Height,r9.1.Track.Rate,r9.1.Track.Radius,r9.1.Track.Code,r9.1.Track.Hits,r9.1.Track.Misses⟩,r9.1.Slack,r9.1.Last⟩,⟨0,0⟩,true⟩:followed)])).map followed.c),Ow A_6 c_6 4 1 (zw.map bc),Ow A c 42 6 (r2.1.map Zj.c),Bk b_t (Zi.k (⟨t.rules,(zf++([(⟨⟨⟨next,r9.1.Track.State,r9.1.Track.Time,r9.1.Track.At,r9.1.Track.Speed,r9.1.Track.Height,r9.1.Track.Rate,r9.1.Track.Radius,r9.1.Track.Code,r9.1.Track.Hits,r9.1.Track.Misses⟩,r9.1.Slack,r9.1.Last⟩,⟨0,0⟩,true⟩:followed)])),w64 (next+1),time⟩:Zi) A_9 c_9) 118,Ow A_l c_l 42 6 (l.map Zj.c),Bk b12 (followed.c (⟨⟨⟨next,r9.1.Track.State,r9.1.Track.Time,r9.1.Track.At,r9.1.Track.Speed,r9.1.Track.Height,r9.1.Track.Rate,r9.1.Track.Radius,r9.1.Track.Code,r9.1.Track.Hits,r9.1.Track.Misses⟩,r9.1.Slack,r9.1.Last⟩,⟨0,0⟩,true⟩:followed)) 122,Bk b11 (Za.c (⟨⟨next,r9.1.Track.State,r9.1.Track.Time,r9.1.Track.At,r9.1.Track.Speed,r9.1.Track.Height,r9.1.Track.Rate,r9.1.Track.Radius,r9.1.Track.Code,r9.1.Track.Hits,r9.1.Track.Misses⟩,r9.1.Slack,r9.1.Last⟩:Za)) 44,Bk b10 (Zj.c x_4) 42] (fun _ hM=>hM.perm (px [1,5,6,2,7,0,3,4])) (TE.rw 209 (.i (w64 ((k_3:Int)+1))) (.i ((k_3+1:Nat):Int)) Kr (ZD k_3 (by (try have kx_:=Xu kb_.2 (show k_2<_ by omega));omega)) (Z4 (x:=(k_3,next,zf,A_xs__3,z7)) (k_3+1,w64 (next+1),(zf++([(⟨⟨⟨next,r9.1.Track.State,r9.1.Track.Time,r9.1.Track.At,r9.1.Track.Speed,r9.1.Track.Height,r9.1.Track.Rate,r9.1.Track.Radius,r9.1.Track.Code,r9.1.Track.Hits,r9.1.Track.Misses⟩,r9.1.Slack,r9.1.Last⟩,⟨0,0⟩,true⟩:followed)])),A_9,c_9) ⟨by omega,kr.trans (by subst hr1 hr2 hr4 hr5 hr9;rw[ky];exact Ze h11 (rfl)),(by (try have kx_:=Xu kb_.2 (show k_2<_ by omega));exact sl)⟩ (mN kx) Kr (sb 31)))))))))
      ·have ky:=Qb h10
       refine TC.exit (ZT (ZT (Z0 ?_)))
       exact TE.cut (next,zf,A_xs__3,z7) (⟨kr.trans (by subst hr1 hr2 hr4 hr5;rw[ky];exact rfl),(by (try have kx_:=Xu kb_.2 (show k_2<_ by omega));exact sl)⟩) Kr (sb 25)
     ·rintro⟨zx,vq,A_xs__4,vu⟩ ⟨rz,iv⟩
      refine YC (Zc 1 [] [(256,.p0 b_t)] {} (Xm [Bk b_t (Zi.k (⟨t.rules,vq,zx,time⟩:Zi) A_xs__4 vu) 118,Ow A_xs__4 vu 122 23 (vq.map followed.c),Ow A_l c_l 42 6 (l.map Zj.c)] (fun _ hM=>hM.perm (px [1,0,2])) (Be (Γ:=AN) 2 257 (Z8 (⟨t.rules,vq,zx,time⟩:Zi)) (fun _ _=>.tuple #[]) (fun r10 g=>[Bk b_t (Zi.k r10 g.1 g.2) 118,Ow g.1 g.2 122 23 (r10.all.map followed.c)]) [Bk b_t (Zi.k (⟨t.rules,vq,zx,time⟩:Zi) A_xs__4 vu) 118,Ow A_xs__4 vu 122 23 (vq.map followed.c)] Kr (fun w hM=>Uk b_t (⟨t.rules,vq,zx,time⟩:Zi) A_xs__4 vu w hM (by show vq.length≤64;omega)) {} (fun r10 js=>?_))))
      have kc_:r10.all.length≤vq.length:=HV js
      rintro⟨A_10,nm⟩
      refine Y3 (fun w hM=>hM.short_at 1 rfl) (fun ob=>Zz (Zc 2 [] [(258,.p0 b_t),(259,.i time)] {} (Be (Γ:=AN) 2 260 (ZR r10 time) (fun _ _=>.tuple #[]) (fun r11 g=>[Bk b_t (Zi.k r11 g.1 g.2) 118,Ow g.1 g.2 122 23 (r11.all.map followed.c)]) [Bk b_t (Zi.k r10 A_10 nm) 118,Ow A_10 nm 122 23 (r10.all.map followed.c)] Kr (fun w hM=>UU b_t r10 A_10 nm time w hM (by omega)) {} (fun r11 ju=>?_))))
      have kf_:=Oa ju (by omega)
      rintro⟨A_11,uh⟩
      refine Y3 (fun w hM=>hM.short_at 1 rfl) (fun od=>Zz (Zc 1 [] [(36,.slice none 0 0)] {} (Z1 (Zf (Zc 6 [0] [(264,.slice A_11 r11.all.length uh),(265,.i (r11.all.length:Int)),(266,.i 0)] {} (Zb rfl (Q0 [Ow none 0 40 13 (([]:List Track).map Track.c),Bk b_t (Zi.k r11 A_11 uh) 118,Ow A_11 uh 122 23 (r11.all.map followed.c),Ow A_l c_l 42 6 (l.map Zj.c)] (fun _ hM=>hM.emptyrow none 40 13) ?_)))))))
      obtain⟨R15,gd⟩:∃ R,R=YV r11.all 0 ([]:List Track):=⟨_,rfl⟩
      refine TC.cut (S:=(List Track)×(Option Addr)×Nat) (fun (qk,A_out_2,qe)=>[(36,.slice A_out_2 qk.length qe)]) (fun (qk,A_out_2,qe)=>[Ow A_out_2 qe 40 13 (qk.map Track.c),Bk b_t (Zi.k r11 A_11 uh) 118,Ow A_11 uh 122 23 (r11.all.map followed.c),Ow A_l c_l 42 6 (l.map Zj.c)]) (fun (qk,A_out_2,qe)=>R15=qk∧qk.length≤r11.all.length) ?_ ?_
      ·refine TC.block (Xp (X:=Nat×(List Track)×(Option Addr)×Nat) (fun (k_4,out,A_out,qh)=>[(36,.slice A_out out.length qh),(264,.slice A_11 r11.all.length uh),(265,.i (r11.all.length:Int)),(266,.i (k_4:Int))]) (fun (k_4,out,A_out,qh)=>[Ow A_out qh 40 13 (out.map Track.c),Bk b_t (Zi.k r11 A_11 uh) 118,Ow A_11 uh 122 23 (r11.all.map followed.c),Ow A_l c_l 42 6 (l.map Zj.c)]) (fun (k_4,out,A_out,qh)=>r11.all.length-k_4) (fun (k_4,out,A_out,qh)=>k_4≤r11.all.length∧R15=YV (r11.all.drop k_4) k_4 out∧out.length≤k_4) ?_ (0,([]:List Track),none,0) ⟨aP _,gd,sz⟩ Kr (sb 15))
       rintro⟨k_4,out,A_out,qh⟩ ⟨hk_4,fo,kn⟩
       refine Zf (Zc 1 [] [(267,.b (decide ((k_4:Int)<(r11.all.length:Int))))] {} (Z1 (TC.cond (decide ((k_4:Int)<(r11.all.length:Int))) rfl Kr (fun h12=>?_) (fun h12=>?_))))
       ·have pq:=ltN h12
        obtain⟨x_5,iw⟩:=elN pq
        have gf:=drop_at iw
        refine Yg (TC.seq (TC.block (Zf (TL.v (sV (Instr.indexAt 116 (.slice A_11 r11.all.length uh) (.i (k_4:Int)))) 268 (.pointer (some (Ix A_11 (k_4*23)))) (fun w hM=>Zr (hM.rd_at 2 rfl) (by simp) Kr (by (try have kx_:=Xu kb_.2 (show k_2<_ by omega));exact sd) (by (try have kx_:=Xu kb_.2 (show k_2<_ by omega));exact sd)) {} (TL.v (sV (Instr.loadAt 122 (.pointer (some (Ix A_11 (k_4*23)))))) 269 (followed.v x_5) (fun w hM=>Z9 (n:=23) (off:=0) (i:=k_4) (followed.v x_5) (hM.rd_at 2 rfl) (Z6 iw) Kr Kr Kr) {} (ZA 38 (fun b13=>.p0 b13) (fun b13=>Bk b13 (followed.c followed.zero) 122) (fun b13=>{}) (fun b13=>Yp 0 (Bk b13 (followed.c x_5) 122) (fun _=>{}) (Zb rfl (TC.region (Zc 4 [0] [(270,.slice A_out out.length qh),(273,Track.v x_5.f.Track)] {} (ZA 274 (fun b14=>.slice (Pa b14) 1 1) (fun b14=>Bk b14 (Track.c x_5.f.Track) 40) (fun b14=>{}) (fun b14=>TL.os (Γ:=AN) (sV (Builtin.append_ #[57,57] 57 #[.slice A_out out.length qh,.slice (Pa b14) 1 1])) 275 (fun g=>.slice g.1 (out++([x_5.f.Track])).length g.2) 2 (fun g=>Ow g.1 g.2 40 13 ((out++([x_5.f.Track])).map Track.c)) (QE (bytes:=104) 57 2 ([x_5.f.Track]) Kr rfl rfl Track.one rfl (fun w hM=>(Rd.lit hM 0 _ rfl Kr Kr Kr)) rfl (by (try have kx_:=Xu kb_.2 (show k_2<_ by omega));exact sa)) {} ?_))))))))))))
        rintro⟨A_12,iy⟩
        exact Zc 7 [] [(36,.slice A_12 ((out++([x_5.f.Track])).length) iy)] {} (Zw rfl (ZY (Z3 (TC.region (Zc 2 [] [(266,.i (w64 ((k_4:Int)+1)))] {} (Zw rfl (TE.rw 266 (.i (w64 ((k_4:Int)+1))) (.i ((k_4+1:Nat):Int)) Kr (ZD k_4 (by (try have kx_:=Xu kb_.2 (show k_2<_ by omega));omega)) (Z4 (x:=(k_4,out,A_out,qh)) (k_4+1,(out++([x_5.f.Track])),A_12,iy) ⟨by omega,fo.trans (by subst hr1 hr2 hr4 hr5 js ju;rw[gf];exact rfl),(by (try have kx_:=Xu kb_.2 (show k_2<_ by omega));exact sl)⟩ (mN pq) Kr (sb 60)))))))))
       ·have gf:=Qb h12
        refine TC.exit (ZT (ZT (Z0 ?_)))
        exact TE.cut (out,A_out,qh) (⟨fo.trans (by subst hr1 hr2 hr4 hr5 js ju;rw[gf];exact rfl),(by (try have kx_:=Xu kb_.2 (show k_2<_ by omega));exact sl)⟩) Kr (sb 15)
      ·rintro⟨qk,A_out_2,qe⟩ ⟨de,jw⟩
       refine YC (Zc 3 [] [(6,.slice A_out_2 qk.length qe),(7,.i 0)] {} (Zb rfl (TC.ret ?_)))
       have e:Zy t l time=(qk,0,r11):=by subst hr1 hr2 hr4 hr5 js ju;unfold Zy;exact Ze h1 (Yr (hJ) (Yr (hR.symm.trans jv) (Yr (xo.symm.trans gv) (Yr (yd.symm.trans rz) (Yr (gd.symm.trans de) (rfl))))))
       refine Yi [Bk b_t (Zi.k r11 A_11 uh) 118,Ow A_11 uh 122 23 (r11.all.map followed.c),Ow A_l c_l 42 6 (l.map Zj.c),Ow A_out_2 qe 40 13 (qk.map Track.c)] (fun _ hM=>hM.perm (px [1,2,3,0])) ?_
       rw[e]
       exact ZO (.inl rfl) ((A_out_2,qe),(A_11,uh)) [] (.tuple #[.slice A_out_2 qk.length qe,.i 0]) {} rfl (fun _ hM=>hM.sub (sb 15))
end Go.Sky
end
section
namespace Go.Sky
open Go Go.Eng Go.Glue Go.Srt
def ids (l:List followed):List Int:=l.map fun x=>x.f.Track.ID
def Dl (l:List followed):Prop:=∀ x∈l,x.f.In
theorem H6 {l:List followed} {x:followed} (h:Dl l) (hx:x.f.In):Dl (x::l):=fun y hy=>by
 rcases bB.1 hy with rfl|hy
 ·exact hx
 ·exact h y hy
theorem FM {f:Za} {s:Zj} {a p v:Int} (h:(Yk f s a p v).2=0):(Yk f s a p v).1.In∧(Yk f s a p v).1.Track.ID=f.Track.ID:=by
 unfold Yk at h ⊢
 simp only[XD] at h ⊢
 by_cases h1:(ZP f != 0)=true
 ·rw[if_pos h1] at h;simp at h h1;exact absurd h h1
 rw[if_neg h1] at h ⊢
 by_cases h2:(ZG s != 0)=true
 ·rw[if_pos h2] at h;simp at h h2;exact absurd h h2
 rw[if_neg h2] at h ⊢
 by_cases h3:Yw p 0 256=true
 ·rw[if_pos h3] at h;cases h
 rw[if_neg h3] at h ⊢
 by_cases h4:Yw v 0 256=true
 ·rw[if_pos h4] at h;cases h
 rw[if_neg h4] at h ⊢
 by_cases h5:decide (w64 (s.Time-f.Last.Time)≤0)=true
 ·rw[if_pos h5] at h;cases h
 rw[if_neg h5] at h ⊢
 by_cases h6:((Z5 f s.Time a).2 != 0)=true
 ·rw[if_pos h6] at h;simp at h h6;exact absurd h h6
 rw[if_neg h6] at h ⊢
 have hk:=WW (f:=f) (t:=s.Time) (a:=a) (by simpa using h6)
 generalize Z5 f s.Time a=r5 at h hk ⊢
 split at h
 ·cases h
 ·rename_i h7
  rw[if_neg h7]
  split at h
  ·rename_i h8
   rw[if_pos h8]
   split at h
   ·cases h
   ·rename_i h9
    rw[if_neg h9]
    exact⟨J4.1 (by simpa using h9),hk.2⟩
  ·rename_i h8
   rw[if_neg h8]
   split at h
   ·cases h
   ·rename_i h9
    rw[if_neg h9]
    exact⟨J4.1 (by simpa using h9),hk.2⟩
theorem Oc {f:Za} (h:f.In):(QH f).1.In∧(QH f).1.Track.ID=f.Track.ID:=by
 unfold QH
 rw[J4.2 h]
 obtain⟨a1,a2,a3,a4,a5,⟨a6,a7,a8⟩,⟨a9,a10⟩,a11,a12⟩:=h
 cases f.Track.State==2
 ·exact⟨⟨a1,a2,a3,a4,a5,⟨a6,a7,(show (0:Int)≤0 by decide)⟩,⟨a9,a10⟩,a11,a12⟩,rfl⟩
 ·exact⟨⟨a1,a2,a3,a4,a5,⟨a6,a7,(show (0:Int)≤0 by decide)⟩,⟨(show (0:Int)≤1 by decide),(show (1:Int)≤2 by decide)⟩,a11,a12⟩,rfl⟩
theorem E3 {f:Za} {n:Int} (h:(Xt f n).2.2=0):(Xt f n).1.In∧(Xt f n).1.Track.ID=f.Track.ID:=by
 unfold Xt at h ⊢
 simp only[XD] at h ⊢
 by_cases h1:(ZP f != 0)=true
 ·rw[if_pos h1] at h;simp at h h1;exact absurd h h1
 rw[if_neg h1] at h ⊢
 obtain⟨a1,a2,a3,a4,a5,⟨a6,a7,a8⟩,⟨a9,a10⟩,a11,a12⟩:f.In:=J4.1 (by simpa using h1)
 by_cases h2:(decide (n<0)||decide (n>100))=true
 ·rw[if_pos h2] at h;cases h
 rw[if_neg h2] at h ⊢
 have hm:f.Track.Misses<101→0≤w64 (f.Track.Misses+1):=fun hh=>by rw[Zt (by omega)];omega
 split
 ·rename_i h3
  have h3:=hm (of_decide_eq_true h3)
  split
  ·exact⟨⟨a1,a2,a3,a4,a5,⟨a6,a7,h3⟩,⟨(show (0:Int)≤2 by decide),(show (2:Int)≤2 by decide)⟩,a11,a12⟩,rfl⟩
  ·exact⟨⟨a1,a2,a3,a4,a5,⟨a6,a7,h3⟩,⟨a9,a10⟩,a11,a12⟩,rfl⟩
 ·split
  ·exact⟨⟨a1,a2,a3,a4,a5,⟨a6,a7,(show (0:Int)≤101 by decide)⟩,⟨(show (0:Int)≤2 by decide),(show (2:Int)≤2 by decide)⟩,a11,a12⟩,rfl⟩
  ·exact⟨⟨a1,a2,a3,a4,a5,⟨a6,a7,(show (0:Int)≤101 by decide)⟩,⟨a9,a10⟩,a11,a12⟩,rfl⟩
theorem NH (t:Zi) (time:Int):∀ (xs:List followed) (k:Nat) (tr:List Track) (al:List followed),∃ ys,ys.Sublist xs∧(ZH t time xs k tr al).2=al++ys
 | [],_,tr,al=>⟨[],.slnil,by unfold ZH;rw[bU]⟩
 | x::xs,k,tr,al=>by
  unfold ZH
  simp only
  cases ((Z5 x.f time t.rules.Accel).2==0) with
  | true =>
   obtain⟨ys,h1,h2⟩:=NH t time xs (k+1) (tr ++ [(Z5 x.f time t.rules.Accel).1.Track]) (al ++ [x])
   exact⟨x::ys,h1.cons_cons x,by rw[cond_true,h2,bT];rfl⟩
  | false =>
   obtain⟨ys,h1,h2⟩:=NH t time xs (k+1) tr al
   exact⟨ys,h1.cons x,by rw[cond_false,h2]⟩
theorem NI (t:Zi) (r2:List Zj×Int) (r5:List Int×Int×Int):∀ (xs:List followed) (k:Nat) (used:List Bool) (out:List followed),∃ ys,(ZI t r2 r5 xs k used out).2=out++ys∧(ids ys).Sublist (ids xs)∧Dl ys
 | [],_,used,out=>⟨[],by unfold ZI;rw[bU],.slnil,fun _ h=>by cases h⟩
 | x::xs,k,used,out=>by
  unfold ZI
  have key:∀ p:List Bool×followed,(p.2.hit=true→p.2.f.In)→p.2.f.Track.ID=x.f.Track.ID→∃ ys,(YB p fun (xb,x_3) =>
    cond (!x_3.hit) (
     let r8:=Xt x_3.f t.rules.Misses
     cond ((r8.2.2 != 0)||r8.2.1) (
      ZI t r2 r5 xs (k+1) xb out) (
      ZI t r2 r5 xs (k+1) xb (out++([(⟨r8.1,x_3.history,x_3.hit⟩:followed)])))) (
     ZI t r2 r5 xs (k+1) xb (out++([x_3])))).2=out++ys∧(ids ys).Sublist (ids (x::xs))∧Dl ys:=by
   rintro⟨u,y⟩ h1 h2
   simp only at h1 h2
   unfold YB
   simp only
   have put:∀ z:followed,z.f.In→z.f.Track.ID=x.f.Track.ID→∃ ys,(ZI t r2 r5 xs (k+1) u (out ++ [z])).2=out++ys∧(ids ys).Sublist (ids (x::xs))∧Dl ys:=fun z hz hz2=>by
    obtain⟨ys,g1,g2,g3⟩:=NI t r2 r5 xs (k+1) u (out ++ [z])
    refine⟨z::ys,by rw[g1,bT];rfl,?_,H6 g3 hz⟩
    show (z.f.Track.ID::ids ys).Sublist (x.f.Track.ID::ids xs)
    rw[hz2];exact g2.cons_cons _
   cases hy:y.hit with
   | true=>exact put y (h1 hy) h2
   | false =>
    simp only[eF,cond_true]
    cases hm:((Xt y.f t.rules.Misses).2.2 != 0)||(Xt y.f t.rules.Misses).2.1 with
    | true =>
     obtain⟨ys,g1,g2,g3⟩:=NI t r2 r5 xs (k+1) u out
     exact⟨ys,g1,g2.cons _,g3⟩
    | false =>
     have hm0:(Xt y.f t.rules.Misses).2.2=0:=by simp at hm;exact hm.1
     have:=E3 hm0
     exact put ⟨(Xt y.f t.rules.Misses).1,y.history,false⟩ this.1 (this.2.trans h2)
  refine key _ ?_ ?_
  ·cases decide ((r5.1[k]?.getD 0)≥0) with
   | false=>intro h;cases h
   | true =>
    simp only[cond_true]
    cases hu:(Yk x.f (r2.1[(r5.1[k]?.getD 0).toNat]?.getD Zj.zero) t.rules.Accel t.rules.Place t.rules.Speed).2==0 with
    | true=>intro _;exact(Oc (FM (by simpa using hu)).1).1
    | false=>intro h;cases h
  ·cases decide ((r5.1[k]?.getD 0)≥0) with
   | false=>rfl
   | true =>
    simp only[cond_true]
    cases hu:(Yk x.f (r2.1[(r5.1[k]?.getD 0).toNat]?.getD Zj.zero) t.rules.Accel t.rules.Place t.rules.Speed).2==0 with
    | true=>have h:=FM (show _=0 by simpa using hu);exact(Oc h.1).2.trans h.2
    | false=>rfl
theorem W3 (used:List Bool):∀ (xs:List Zj) (k:Nat) (next:Int) (out:List followed),out.length≤32→(ZQ used xs k next out).2.length≤32
 | [],_,_,_,h=>h
 | x::xs,k,next,out,h=>by
  unfold ZQ
  cases hc:(((used[k]?.getD false))||(decide ((out.length:Int)≥32))) with
  | true=>exact W3 used xs (k+1) next out h
  | false =>
   have h1:¬ (out.length:Int)≥32:=by simp at hc ⊢;exact hc.2
   exact W3 used xs (k+1) (w64 (next+1)) _ (by rw[aW,eQ];omega)
theorem Oe {s:Zj} (h:s.In) (n:Int) (hn:0≤n):Za.In ⟨⟨n,(Y8 s).1.Track.State,(Y8 s).1.Track.Time,(Y8 s).1.Track.At,(Y8 s).1.Track.Speed,(Y8 s).1.Track.Height,(Y8 s).1.Track.Rate,(Y8 s).1.Track.Radius,(Y8 s).1.Track.Code,(Y8 s).1.Track.Hits,(Y8 s).1.Track.Misses⟩,(Y8 s).1.Slack,(Y8 s).1.Last⟩:=by
 unfold Y8
 rw[Jo.2 h]
 obtain⟨b1,b2,b3,b4,b5⟩:=h
 refine⟨⟨b1,b2,b3,b4,b5.1,?_⟩,(show (-12800:Int)≤0∧(0:Int)≤12800 by decide),(show (-12800:Int)≤0∧(0:Int)≤12800 by decide),(show (-3200:Int)≤0∧(0:Int)≤3200 by decide),(show (0:Int)≤6400∧(6400:Int)≤409600 by decide),⟨hn,(show (0:Int)≤1 by decide),cO _⟩,(show (0:Int)≤0∧(0:Int)≤2 by decide),⟨b1,b2,b3,b4,b5⟩,cO _⟩
 show s.Error≤4000000
 omega
theorem NJ (used:List Bool):∀ (xs:List Zj) (k:Nat) (next:Int) (out:List followed),(∀ s∈xs,s.In)→0≤next→next+xs.length≤1000000000 →
  ∃ (ys:List followed) (m:Nat),ZQ used xs k next out=(next+m,out++ys)∧Dl ys∧(∀ i∈ids ys,next≤i∧i<next+m)∧(ids ys).Pairwise (·<·)∧m≤xs.length
 | [],_,next,out,_,_,_=>⟨[],0,by unfold ZQ;simp,(fun _ h=>by cases h),(fun _ h=>by cases h),.nil,aU _⟩
 | x::xs,k,next,out,h,h0,hn=>by
  rw[aI] at hn
  unfold ZQ
  have hx:=h x (aJ ..)
  have hxs:=fun s hs=>h s (aG _ hs)
  cases hc:(((used[k]?.getD false))||(decide ((out.length:Int)≥32))) with
  | true =>
   obtain⟨ys,m,g1,g2,g3,g4,g5⟩:=NJ used xs (k+1) next out hxs h0 (by omega)
   exact⟨ys,m,g1,g2,g3,g4,by rw[aI];omega⟩
  | false =>
   show ∃ ys m,ZQ used xs (k+1) (w64 (next+1)) _=_∧_
   rw[Zt (by omega)]
   obtain⟨ys,m,g1,g2,g3,g4,g5⟩:=NJ used xs (k+1) (next+1) _ hxs (by omega) (by omega)
   refine⟨_::ys,m+1,?_,H6 (x:=⟨_,⟨0,0⟩,true⟩) g2 (Oe hx next h0),?_,?_,by rw[aI];omega⟩
   ·rw[g1,bT]
    refine Prod.ext ?_ rfl
    show next+1+(m:Int)=next+((m+1:Nat):Int)
    omega
   ·intro i hi
    rcases bB.1 hi with hi|hi
    ·have hi:i=next:=hi
     omega
    ·have:=g3 i hi;omega
   ·refine List.pairwise_cons.2 ⟨fun i hi=>?_,g4⟩
    show next<i
    have:=g3 i hi;omega
theorem W4 (t:Zi):∀ (xs:List followed) (k:Nat) (out:List followed),Dl xs→∃ ys,Z7 t xs k out=out++ys∧(ids ys).Sublist (ids xs)∧Dl ys
 | [],_,out,_=>⟨[],by unfold Z7;rw[bU],.slnil,fun _ h=>by cases h⟩
 | x::xs,k,out,hv=>by
  have hx:=hv x (aJ ..)
  have hxs:Dl xs:=fun s hs=>hv s (aG _ hs)
  have put:∀ z:followed,z.f.In→z.f.Track.ID=x.f.Track.ID→∃ ys,Z7 t xs (k+1) (out ++ [z])=out++ys∧(ids ys).Sublist (ids (x::xs))∧Dl ys:=fun z hz hz2=>by
   obtain⟨ys,g1,g2,g3⟩:=W4 t xs (k+1) (out ++ [z]) hxs
   refine⟨z::ys,by rw[g1,bT];rfl,?_,H6 g3 hz⟩
   show (z.f.Track.ID::ids ys).Sublist (x.f.Track.ID::ids xs)
   rw[hz2];exact g2.cons_cons _
  unfold Z7
  simp only[XD]
  split
  ·split
   ·obtain⟨ys,g1,g2,g3⟩:=W4 t xs (k+1) out hxs
    exact⟨ys,g1,g2.cons _,g3⟩
   ·split
    ·obtain⟨a1,a2,a3,a4,a5,a6,_,a11,a12⟩:=hx
     exact put _ ⟨a1,a2,a3,a4,a5,a6,⟨(show (0:Int)≤1 by decide),(show (1:Int)≤2 by decide)⟩,a11,a12⟩ rfl
    ·exact put _ hx rfl
  ·exact put _ hx rfl
theorem WX:∀ (xs:List followed) (k:Nat) (out:List Track),YV xs k out=out++xs.map fun x=>x.f.Track
 | [],_,out=>by unfold YV;rw[List.map_nil,bU]
 | x::xs,k,out=>by unfold YV;rw[WX xs (k+1)];simp
theorem Dm:∀ (xs:List followed) (k:Nat) (out:List Za),YW xs k out=out++xs.map fun x=>x.f
 | [],_,out=>by unfold YW;rw[List.map_nil,bU]
 | x::xs,k,out=>by unfold YW;rw[Dm xs (k+1)];simp
theorem FN (t:Zi):X3 t=t.all.map fun x=>x.f:=Dm t.all 0 []
theorem Dn {t:Zi} {l:List Zj} {time:Int} {r:List Track×Int×Zi} (hr:Zy t l time=r) :
  (r.2.1≠0∧r.1=[]∧r.2.2=t)∨(r.2.1=0∧Yf t l time=0∧r.1=r.2.2.all.map (fun x=>x.f.Track)∧r.2.2.rules=t.rules∧r.2.2.last=time∧(t.all.length≤32→r.2.2.all.length≤32) ∧
   (0≤t.next→t.next≤900000000→(ids t.all).Pairwise (·<·)→(∀ i∈ids t.all,i<t.next)→t.all.length≤32→Dl r.2.2.all∧(ids r.2.2.all).Pairwise (·<·)∧(∀ i∈ids r.2.2.all,i<r.2.2.next)∧t.next≤r.2.2.next∧r.2.2.next≤t.next+32)):=by
 unfold Zy at hr
 simp only at hr
 cases hc:(Yf t l time != 0) with
 | true =>
  rw[hc,cond_true] at hr
  subst hr
  exact .inl ⟨by simpa using hc,rfl,rfl⟩
 | false =>
  have hc0:Yf t l time=0:=by simpa using hc
  have hs:=G2.1 hc0
  have hsp:=LE (r:=YP l 500) hs.1 hs.2.2.2 rfl
  rw[hc,cond_false] at hr
  generalize YP l 500=r2 at hr hsp
  unfold YB at hr
  generalize (cond (decide (t.last≥0)) (YF 60000 (w64 (500+w64 (200*w64 (time-t.last))))) 60000)=qi at hr
  simp only at hr
  obtain⟨al,ha,ha2⟩:=NH t time t.all 0 [] []
  generalize ZH t time t.all 0 [] []=e1 at hr ha2
  obtain⟨tr,al2⟩:=e1
  simp only[bK] at ha2 hr
  subst ha2
  generalize Y5 (XF tr r2.1 qi).1 2147483648=r5 at hr
  obtain⟨ys,hy1,hy2,hy3⟩:=NI t r2 r5 al2 0 (List.replicate ((r2.1.length:Int).toNat) false) []
  generalize ZI t r2 r5 al2 0 (List.replicate ((r2.1.length:Int).toNat) false) []=e2 at hr hy1
  obtain⟨used,xs2⟩:=e2
  simp only[bK] at hy1 hr
  subst hy1
  have hal:al2.length≤t.all.length:=ha.length_le
  have hxl:xs2.length≤al2.length:=by have:=hy2.length_le;unfold ids at this;simpa using this
  have h3:=W3 used r2.1 0 t.next xs2
  have h3b:=NJ used r2.1 0 t.next xs2 (fun s hs=>(hsp.2 s hs).1)
  generalize ZQ used r2.1 0 t.next xs2=e3 at hr h3 h3b
  obtain⟨next,xs4⟩:=e3
  simp only at hr h3 h3b
  generalize hcf:Z8 ⟨t.rules,xs4,next,time⟩=r10 at hr
  have hcl:=HV hcf
  have hcv:=W4 ⟨t.rules,xs4,next,time⟩ xs4 0 []
  unfold Z8 YB at hcf
  simp only at hcf hcl
  rw[← hcf] at hcl hr
  clear hcf
  generalize Z7 ⟨t.rules,xs4,next,time⟩ xs4 0 []=x5 at hr hcl hcv
  simp only at hcl
  refine .inr ?_
  rw[WX] at hr
  have hlen:t.all.length≤32→x5.length≤32:=fun h=>by have:=h3 (by omega);omega
  generalize hf:ZR ⟨t.rules,x5,next,time⟩ time=r11 at hr
  subst hr
  rw[bK]
  have hx5:t.all.length≤32→∃ now,r11=⟨t.rules,x5.filter (fun x=>!ZJ x time now),next,time⟩:=fun h=>LC hf (by have:=hlen h;show x5.length≤64;omega)
  have hrl:r11.rules=t.rules∧r11.last=time:=by subst hf;exact⟨rfl,rfl⟩
  refine⟨rfl,hc0,rfl,hrl.1,hrl.2,fun h=>?_,fun g0 g1 g2 g3 g4=>?_⟩
  ·obtain⟨now,rfl⟩:=hx5 h
   exact bL (List.length_filter_le ..) (hlen h)
  ·obtain⟨now,rfl⟩:=hx5 g4
   obtain⟨zs,m,p1,p2,p3,p4,p5⟩:=h3b g0 (by have:=hsp.1;omega)
   simp only[aS] at p1
   obtain⟨rfl,rfl⟩:=p1
   have ka:(ids xs2).Sublist (ids t.all):=hy2.trans (ha.map _)
   obtain⟨ws,q1,q2,q3⟩:=hcv (fun y hy=>by
    rcases bO.1 hy with hy|hy
    ·exact hy3 y hy
    ·exact p2 y hy)
   rw[bK] at q1
   subst q1
   have hfs:(x5.filter (fun x=>!ZJ x time now)).Sublist x5:=List.filter_sublist
   have hid:(ids (x5.filter (fun x=>!ZJ x time now))).Sublist (ids (xs2++zs)):=(hfs.map _).trans q2
   have hap:ids (xs2++zs)=ids xs2++ids zs:=eN ..
   rw[hap] at hid
   have hb:∀ i∈ids xs2++ids zs,i<t.next+m:=fun i hi=>by
    rcases bO.1 hi with hi|hi
    ·have:=g3 i (ka.mem hi);omega
    ·exact(p3 i hi).2
   refine⟨fun y hy=>q3 y (hfs.mem hy),fO hid (cX.2 ⟨fO ka g2,p4,fun a ha b hb=>?_⟩),fun i hi=>hb i (hid.mem hi),?_,?_⟩
   ·have:=g3 a (ka.mem ha);have:=(p3 b hb).1;omega
   ·show t.next≤t.next+(m:Int);omega
   ·show t.next+(m:Int)≤t.next+32
    have:=hsp.1;omega
theorem Og {t:Zi} {l:List Zj} {time:Int} {r:List Track×Int×Zi} (hr:Zy t l time=r) (h:t.all.length≤32):r.2.2.all.length≤32∧r.1.length≤32:=by
 rcases Dn hr with ⟨_,h1,h2⟩|⟨_,_,h1,_,_,h2,_⟩
 ·rw[h1,h2];exact⟨h,aP _⟩
 ·rw[h1,aD];exact⟨h2 h,h2 h⟩
end Go.Sky
end
section
namespace Go.Sky
open Go
structure Zq where
 (at_ speed:P)
 (height code:Int)
deriving DecidableEq
def Zq.c (x:Zq):Array Value:=#[.int .i64 x.at_.X,.int .i64 x.at_.Y,.int .i64 x.speed.X,.int .i64 x.speed.Y,.int .i64 x.height,.int .i64 x.code]
def Zq.v (x:Zq):Value:=.agg #[.int .i64 x.at_.X,.int .i64 x.at_.Y,.int .i64 x.speed.X,.int .i64 x.speed.Y,.int .i64 x.height,.int .i64 x.code]
def Zq.zero:Zq:=⟨⟨0,0⟩,⟨0,0⟩,0,0⟩
theorem Zq.one (x:Zq):x.c.toList.all Value.oneCell'=true:=rfl
end Go.Sky
end
