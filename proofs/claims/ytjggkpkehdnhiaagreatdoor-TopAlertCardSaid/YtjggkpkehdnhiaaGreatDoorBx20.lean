/- Proves the given statement of this seat that YtjggkpkehdnhiaaGreatDoorRowTopAlert names, from the texts before it; no condition is added. -/
import Derived.Test.YtjggkpkehdnhiaaGreatDoorBx19
import Derived.Test.YtjggkpkehdnhiaaGreatDoorBx11
import Derived.Test.YtjggkpkehdnhiaaGreatDoorBx03
import Derived.Test.YtjggkpkehdnhiaaGreatDoorBx02
import Derived.Test.YtjggkpkehdnhiaaGreatDoorBx12
import Derived.Lib.LaidTab
import Derived.LaidMore
import Derived.LaidLaws
import Derived.MakeChecks
import Derived.LaidHandle
import Derived.OpenShut
import Derived.Test.YtjggkpkehdnhiaaGreatDoorRows
import Derived.Test.YtjggkpkehdnhiaaGreatDoorTie
import Derived.Test.YtjggkpkehdnhiaaGreatDoorCards
section
namespace Go.Sky
open Go Go.Eng Go.Proofs
def X6 (time:Int) (x:Zi):List Zf→Nat→(List Zm)→((List Zm) ⊕ ((List Zg)×Bool))
 | [],_,feed=>.inl feed
 | x_2::xs,k_2,feed=>let r1:=ZU x_2 time
  let r2:=Z4 x (⟨time,r1,x_2.height,x_2.code,0⟩:Zg)
  cond (r2.2 != 0) (
   .inr ([],false)) (
   X6 time x xs (k_2+1) (feed++([r2.1])))
def X7 (l:List Zf) (time:Int):List Zi→Nat→(List (List Zm))→((List (List Zm)) ⊕ ((List Zg)×Bool))
 | [],_,feeds=>.inl feeds
 | x::xs,k,feeds=>Sum.elim (fun feed_2 =>
   X7 l time xs (k+1) (feeds ++ [feed_2])) (fun r=>.inr r) (X6 time x l 0 ([]:List Zm))
def ZD (sites:List Zi) (l:List Zf) (time:Int):List Zg×Bool :=
 Sum.elim (fun feeds_2 =>
  let r3:=Y5 feeds_2
  cond (r3.2 != 0) (
   ([],false)) (
   let r4:=Xm sites r3.1
   (r4.1,r4.2==0))) (fun r=>r) (X7 l time sites 0 ([]:List (List Zm)))
set_option maxHeartbeats 4000000 in
set_option maxRecDepth 100000 in
theorem GG (A_sites:Option Addr) (c_sites:Nat) (sites:List Zi) (A_l:Option Addr) (c_l:Nat) (l:List Zf) (time:Int) (w:World) (h_sites:Rd w 6 A_sites (sites.map Zi.c)) (hc_sites:sites.length≤c_sites) (h_l:Rd w 6 A_l (l.map Zf.c)) (_hc_l:l.length≤c_l) (hT:Uh w) (hn:sites.length≤4∧l.length≤4):Calls Tryz.prog 21 #[.slice A_sites sites.length c_sites,.slice A_l l.length c_l,.int .i64 time] w (QW (Γ:=(Option Addr×Nat)) (cx w) (fun g=>.tuple #[.slice g.1 ((ZD sites l time).1.length) g.2,.bool ((ZD sites l time).2)]) (fun g=>[.inr (Own g.1 g.2 42 6 (((ZD sites l time).1).map Zg.c))])):=by
 have s_sites:=h_sites.short;rw[List.length_map] at s_sites
 have s_l:=h_l.short;rw[List.length_map] at s_l
 refine Zk (vs:=[.slice A_sites sites.length c_sites,.slice A_l l.length c_l,.i time]) (w:=w) Tryz.func21 rfl Tryz.ntmps21 rfl (TC.sr (TL.r 2 [] [(6,.slice none 0 0),(7,.b false)] {} (TL.nr (TL.r 1 [] [(8,.slice none 0 0)] {} (TL.ns (TC.sr (TL.r 3 [] [(19,.slice A_sites sites.length c_sites),(20,.i (sites.length:Int)),(21,.i 0)] {} (TL.next rfl (TC.conv [Ow none 0 83 1 (([]:List (Sl Zm)).map Sl.c),.inr (Bag 89 6 Zm.c ([]:List (Sl Zm)))] (fun _ hM=>(hM.bag_nil 89 6 Zm.c).emptyrow none 83 1) ?_)))))))))
 obtain⟨R2,hR⟩:∃ R,R=X7 l time sites 0 ([]:List (List Zm)):=⟨_,rfl⟩
 refine TC.cut (S:=(List (List Zm))×(Option Addr)×Nat×(List (Sl Zm))) (fun (feeds_2,A_feeds_2,c_feeds_2,o_feeds_2)=>[(0,.slice A_sites sites.length c_sites),(8,.slice A_feeds_2 feeds_2.length c_feeds_2)]) (fun (feeds_2,A_feeds_2,c_feeds_2,o_feeds_2)=>[Ow A_feeds_2 c_feeds_2 83 1 (o_feeds_2.map Sl.c),.inr (Bag 89 6 Zm.c o_feeds_2)]) (fun (feeds_2,A_feeds_2,c_feeds_2,o_feeds_2)=>R2=.inl feeds_2∧feeds_2.length≤sites.length∧(feeds_2=o_feeds_2.map Sl.l)) ?_ ?_
 ·refine TC.block (TC.lw (X:=Nat×(List (List Zm))×(Option Addr)×Nat×(List (Sl Zm))) (fun (k,feeds,A_feeds,c_feeds,o_feeds)=>[(0,.slice A_sites sites.length c_sites),(1,.slice A_l l.length c_l),(2,.i time),(8,.slice A_feeds feeds.length c_feeds),(19,.slice A_sites sites.length c_sites),(20,.i (sites.length:Int)),(21,.i (k:Int))]) (fun (k,feeds,A_feeds,c_feeds,o_feeds)=>[Ow A_feeds c_feeds 83 1 (o_feeds.map Sl.c),.inr (Bag 89 6 Zm.c o_feeds)]) (fun (k,feeds,A_feeds,c_feeds,o_feeds)=>sites.length-k) (fun (k,feeds,A_feeds,c_feeds,o_feeds)=>k≤sites.length∧R2=X7 l time (sites.drop k) k feeds∧feeds.length≤k∧(feeds=o_feeds.map Sl.l)) ?_ (0,([]:List (List Zm)),none,0,([]:List (Sl Zm))) ⟨Nat.zero_le _,hR,sz,rfl⟩ Kr (sb 3))
  rintro⟨k,feeds,A_feeds,c_feeds,o_feeds⟩ ⟨hk,hI,hl_feeds,hl_he_feeds⟩
  refine TC.sr (TL.r 1 [] [(22,.b (decide ((k:Int)<(sites.length:Int))))] {} (TL.ns (TC.cond (decide ((k:Int)<(sites.length:Int))) rfl Kr (fun h1=>?_) (fun h1=>?_))))
  ·have hlt:=ltN h1
   obtain⟨x,hx⟩:=elN hlt
   have hd:=drop_at hx
   refine TC.sn (TC.seq (TC.block (TC.sr (TL.v (sV (Instr.indexAt 55 (.slice A_sites sites.length c_sites) (.i (k:Int)))) 23 (.pointer (some (Ix A_sites (k*6)))) (fun w hM=>Zp (h_sites.sat hM) (by simp) Kr sd sd) {} (TL.v (sV (Instr.loadAt 85 (.pointer (some (Ix A_sites (k*6)))))) 24 (Zi.v x) (fun w hM=>Z6 (n:=6) (off:=0) (i:=k) (Zi.v x) (h_sites.sat hM) (Z8 hx) Kr Kr Kr) {} (TL.nw 10 (fun b1=>.p0 b1) (fun b1=>Bk b1 (Zi.c Zi.zero) 85) (fun b1=>{}) (fun b1=>TL.s 0 (Bk b1 (Zi.c x) 85) (fun _=>{}) (TL.nr (TL.r 1 [] [(11,.slice none 0 0)] {} (TL.ns (TC.sr (TL.r 3 [] [(25,.slice A_l l.length c_l),(26,.i (l.length:Int)),(27,.i 0)] {} (TL.next rfl (TC.conv [Ow none 0 89 6 (([]:List Zm).map Zm.c),Bk b1 (Zi.c x) 85,Ow A_feeds c_feeds 83 1 (o_feeds.map Sl.c),.inr (Bag 89 6 Zm.c o_feeds)] (fun _ hM=>hM.emptyrow none 89 6) ?_))))))))))))))
   obtain⟨R4,hR_2⟩:∃ R,R=X6 time x l 0 ([]:List Zm):=⟨_,rfl⟩
   refine TC.cut (S:=(List Zm)×(Option Addr)×Nat) (fun (feed_2,A_feed_2,c_feed_2)=>[(0,.slice A_sites sites.length c_sites),(1,.slice A_l l.length c_l),(2,.i time),(8,.slice A_feeds feeds.length c_feeds),(11,.slice A_feed_2 feed_2.length c_feed_2),(19,.slice A_sites sites.length c_sites),(20,.i (sites.length:Int)),(21,.i (k:Int))]) (fun (feed_2,A_feed_2,c_feed_2)=>[Ow A_feed_2 c_feed_2 89 6 (feed_2.map Zm.c),Ow A_feeds c_feeds 83 1 (o_feeds.map Sl.c),.inr (Bag 89 6 Zm.c o_feeds)]) (fun (feed_2,A_feed_2,c_feed_2)=>R4=.inl feed_2∧feed_2.length≤l.length) ?_ ?_
   ·refine TC.block (TC.lw (X:=Nat×(List Zm)×(Option Addr)×Nat) (fun (k_2,feed,A_feed,c_feed)=>[(0,.slice A_sites sites.length c_sites),(1,.slice A_l l.length c_l),(2,.i time),(8,.slice A_feeds feeds.length c_feeds),(10,.p0 b1),(11,.slice A_feed feed.length c_feed),(19,.slice A_sites sites.length c_sites),(20,.i (sites.length:Int)),(21,.i (k:Int)),(25,.slice A_l l.length c_l),(26,.i (l.length:Int)),(27,.i (k_2:Int))]) (fun (k_2,feed,A_feed,c_feed)=>[Ow A_feed c_feed 89 6 (feed.map Zm.c),Bk b1 (Zi.c x) 85,Ow A_feeds c_feeds 83 1 (o_feeds.map Sl.c),.inr (Bag 89 6 Zm.c o_feeds)]) (fun (k_2,feed,A_feed,c_feed)=>l.length-k_2) (fun (k_2,feed,A_feed,c_feed)=>k_2≤l.length∧R4=X6 time x (l.drop k_2) k_2 feed∧feed.length≤k_2) ?_ (0,([]:List Zm),none,0) ⟨Nat.zero_le _,hR_2,sz⟩ Kr (sb 15))
    rintro⟨k_2,feed,A_feed,c_feed⟩ ⟨hk_2,hI_2,hl_feed⟩
    refine TC.sr (TL.r 1 [] [(28,.b (decide ((k_2:Int)<(l.length:Int))))] {} (TL.ns (TC.cond (decide ((k_2:Int)<(l.length:Int))) rfl Kr (fun h2=>?_) (fun h2=>?_))))
    ·have hlt_2:=ltN h2
     obtain⟨x_2,hx_2⟩:=elN hlt_2
     have hd_2:=drop_at hx_2
     refine TC.sn (TC.seq (TC.block (TC.sr (TL.v (sV (Instr.indexAt 23 (.slice A_l l.length c_l) (.i (k_2:Int)))) 29 (.pointer (some (Ix A_l (k_2*6)))) (fun w hM=>Zp (h_l.sat hM) (by simp) Kr sd sd) {} (TL.v (sV (Instr.loadAt 38 (.pointer (some (Ix A_l (k_2*6)))))) 30 (Zf.v x_2) (fun w hM=>Z6 (n:=6) (off:=0) (i:=k_2) (Zf.v x_2) (h_l.sat hM) (Z8 hx_2) Kr Kr Kr) {} (TL.nw 13 (fun b2=>.p0 b2) (fun b2=>Bk b2 (Zf.c Zf.zero) 38) (fun b2=>{}) (fun b2=>TL.s 0 (Bk b2 (Zf.c x_2) 38) (fun _=>{}) (TL.ns ?_))))))))
     obtain⟨r1,hr1⟩:∃ r,ZU x_2 time=r:=⟨_,rfl⟩
     obtain⟨r2,hr2⟩:∃ r,Z4 x (⟨time,r1,x_2.height,x_2.code,0⟩:Zg)=r:=⟨_,rfl⟩
     let Mr9_:Mem:=[Bk b2 (Zf.c x_2) 38,Ow A_feed c_feed 89 6 (feed.map Zm.c),Bk b1 (Zi.c x) 85,Ow A_feeds c_feeds 83 1 (o_feeds.map Sl.c),.inr (Bag 89 6 Zm.c o_feeds)]
     refine TC.plan (G:=Nat) (base:=[(0,.slice A_sites sites.length c_sites),(1,.slice A_l l.length c_l),(2,.i time),(8,.slice A_feeds feeds.length c_feeds),(10,.p0 b1),(11,.slice A_feed feed.length c_feed),(13,.p0 b2),(19,.slice A_sites sites.length c_sites),(20,.i (sites.length:Int)),(21,.i (k:Int)),(25,.slice A_l l.length c_l),(26,.i (l.length:Int)),(27,.i (k_2:Int))]) (vals:=fun γ=>[Zi.v x,.i time,Zf.v x_2,.i time,P.v r1,.pt b2 4,.i x_2.height,.pt b2 5,.i x_2.code,Zg.v (⟨time,r1,x_2.height,x_2.code,0⟩:Zg),.tuple #[Zm.v r2.1,.i r2.2],.tuple #[Zm.v r2.1,.i r2.2],Zm.v r2.1,.i r2.2,.p0 γ,undef,.i r2.2]) (writes:=[14,15]) (mem:=fun bs γ=>match bs with | [x14_,x15_]=>(bif x15_ then [Bk γ (Zm.c r2.1) 89] else bif x14_ then [Bk γ (Zm.c Zm.zero) 89] else [])++(Mr9_)|_=>[]) (0) (fun γ=>[(0,.slice A_sites sites.length c_sites),(1,.slice A_l l.length c_l),(2,.i time),(8,.slice A_feeds feeds.length c_feeds),(10,.p0 b1),(11,.slice A_feed feed.length c_feed),(14,.p0 γ),(15,.i r2.2),(19,.slice A_sites sites.length c_sites),(20,.i (sites.length:Int)),(21,.i (k:Int)),(25,.slice A_l l.length c_l),(26,.i (l.length:Int)),(27,.i (k_2:Int))]) Kr Kr Kr Kr Kr (fun γ=>Kr) (fun _ hM=>hM) (fun γ=>Kr) ?_ ?_
     ·skip
      exact Steps.run (i:=0) 4 [2,0,0,0] Mr9_ Kr Kr (fun S (γ:Nat) w hM=>by rw[mS2 rfl rfl] at hM;exact hM.sub (Zl (List.Sublist.refl _))) Kr (fun (γ:Nat)=>{}) (Steps.call (i:=4) 16 (fun (γ:Nat)=>#[Zf.v x_2,.i time]) (some 36) (fun (γ:Nat)=>P.v r1) (fun (γ:Nat)=>[Bk b2 (Zf.c x_2) 38,Ow A_feed c_feed 89 6 (feed.map Zm.c),Bk b1 (Zi.c x) 85,Ow A_feeds c_feeds 83 1 (o_feeds.map Sl.c),.inr (Bag 89 6 Zm.c o_feeds)]) Kr (fun S (γ:Nat) w _ hM=>by rw[mS2 rfl rfl] at hM;exact hM.sub (Zl (List.Sublist.refl _))) (fun (γ:Nat) w _=>by have h:=Q6 x_2 time w;rw[hr1] at h;exact h) (fun (γ:Nat)=>Kr) (fun (γ:Nat)=>Kr) (Steps.run (i:=5) 10 [0,0,0,0,0] Mr9_ Kr Kr (fun S (γ:Nat) w hM=>by rw[mS2 rfl rfl] at hM;exact hM.sub (Zl (List.Sublist.refl _))) Kr (fun (γ:Nat)=>{}) (Steps.call (i:=10) 32 (fun (γ:Nat)=>#[Zi.v x,Zg.v (⟨time,r1,x_2.height,x_2.code,0⟩:Zg)]) (some 42) (fun (γ:Nat)=>.tuple #[Zm.v r2.1,.i r2.2]) (fun (γ:Nat)=>[Bk b2 (Zf.c x_2) 38,Ow A_feed c_feed 89 6 (feed.map Zm.c),Bk b1 (Zi.c x) 85,Ow A_feeds c_feeds 83 1 (o_feeds.map Sl.c),.inr (Bag 89 6 Zm.c o_feeds)]) Kr (fun S (γ:Nat) w _ hM=>by rw[mS2 rfl rfl] at hM;exact hM.sub (Zl (List.Sublist.refl _))) (fun (γ:Nat) w hM=>by have h:=DX x (⟨time,r1,x_2.height,x_2.code,0⟩:Zg) w (hT.sat hM);rw[hr2] at h;exact h) (fun (γ:Nat)=>Kr) (fun (γ:Nat)=>Kr) (Steps.run (i:=11) 14 [0,0,0] Mr9_ Kr Kr (fun S (γ:Nat) w hM=>by rw[mS2 rfl rfl] at hM;exact hM.sub (Zl (List.Sublist.refl _))) Kr (fun (γ:Nat)=>{}) (Steps.op (i:=14) (Γ:=Nat) (fun g (γ:Nat)=>g) (fun _=>[]) (fun b (γ:Nat)=>[Bk b (Zm.c Zm.zero) 89]) (fun S (γ:Nat)=>Mr9_) [14,15,16] (fun (γ:Nat)=>sV (Instr.alloc 89 true (.tuple #[]))) (some 14) (fun b (γ:Nat)=>.p0 b) (fun S (γ:Nat) hj hd hl=>by rw[mS2 hj (hl 15 Kr)];exact List.Perm.refl _) (fun S (γ:Nat) g hl=>by rw[mS2 (S:=upS S 14) (a0:=14) (a1:=15) rfl (hl 15 Kr)];exact(List.Perm.refl _).symm) (fun (γ:Nat) M' w hM=>Qd (v:=fun b=>.p0 b) (fun b M=>Kr) M' w hM) (fun (γ:Nat)=>Kr) (fun (γ:Nat) g=>Kr) Kr (fun (γ:Nat) g=>Kr) (Steps.put (i:=15) (fun (γ:Nat)=>[Bk γ (Zm.c Zm.zero) 89]) (fun (γ:Nat)=>[Bk γ (Zm.c r2.1) 89]) (fun S (γ:Nat)=>Mr9_) (fun (γ:Nat)=>sU (Instr.storeAt 89 (.p0 γ) (Zm.v r2.1))) none (fun S (γ:Nat) hj hd hl=>by rw[mS2 (hd 14 Kr) hj];exact List.Perm.refl _) (fun S (γ:Nat) _=>(List.Perm.refl _).symm) (fun (γ:Nat) M' w hM=>QD (fun b M=>Kr) (fun b M=>Kr) M' w hM) (fun (γ:Nat)=>Kr) (fun (γ:Nat)=>Kr) (Steps.run (i:=16) 17 [0] Mr9_ Kr Kr (fun S (γ:Nat) w hM=>by rw[mS2 rfl rfl] at hM;exact hM.sub (Zl (List.Sublist.refl _))) Kr (fun (γ:Nat)=>{}) (Steps.done Kr))))))))
     ·rintro b3
      refine TE.conv [Bk b3 (Zm.c r2.1) 89,Bk b2 (Zf.c x_2) 38,Ow A_feed c_feed 89 6 (feed.map Zm.c),Bk b1 (Zi.c x) 85,Ow A_feeds c_feeds 83 1 (o_feeds.map Sl.c),.inr (Bag 89 6 Zm.c o_feeds)] (fun _ hM=>hM) (TE.next (TC.seq (TC.sr (TL.r 2 [] [(46,.b (r2.2 != 0))] {} (TL.next rfl (TC.cond (r2.2 != 0) rfl Kr (fun h3=>?_) (fun h3=>?_)))))))
      ·refine TC.sr (TL.r 2 [] [(6,.slice none 0 0),(7,.b false)] {} (TL.next rfl (TC.ret (TE.rt (TE.rb (TE.rt (TE.rt (TE.rb (TE.rt (TE.rt (TE.rb (TE.rt (TE.rt (TE.rb (TE.rt (TE.rt ?_))))))))))))))))
       have e:ZD sites l time=([],false):=by subst hr1 hr2;unfold ZD;exact X3 (hR.symm.trans (hI.trans (by rw[hd];exact X3 (hR_2.symm.trans (hI_2.trans (by rw[hd_2];exact Zj h3 (rfl)))) rfl))) rfl
       refine TE.conv [Ow none 0 42 6 (([]:List Zg).map Zg.c),Bk b3 (Zm.c r2.1) 89,Bk b2 (Zf.c x_2) 38,Ow A_feed c_feed 89 6 (feed.map Zm.c),Bk b1 (Zi.c x) 85,Ow A_feeds c_feeds 83 1 (o_feeds.map Sl.c),.inr (Bag 89 6 Zm.c o_feeds)] (fun _ hM=>hM.emptyrow none 42 6) ?_
       rw[e]
       exact TE.retM (.inl rfl) (none,0) [] (.tuple #[.slice none 0 0,.b false]) {} rfl (fun _ hM=>hM.sub (sb 1))
      ·have q3_0:=(QQ h3)
       refine TC.sn (TC.region (TL.r 2 [0] [(47,.slice A_feed feed.length c_feed),(48,Zm.v r2.1)] {} (TL.nw 49 (fun b4=>.slice (Pa b4) 1 1) (fun b4=>Bk b4 (Zm.c r2.1) 89) (fun b4=>{}) (fun b4=>TL.os (Γ:=AN) (sV (Builtin.append_ #[83,83] 83 #[.slice A_feed feed.length c_feed,.slice (Pa b4) 1 1])) 50 (fun g=>.slice g.1 (feed++([r2.1])).length g.2) 3 (fun g=>Ow g.1 g.2 89 6 ((feed++([r2.1])).map Zm.c)) (Qx (bytes:=48) 83 3 ([r2.1]) Kr rfl rfl Zm.one rfl (fun w hM=>(Rd.lit hM 0 _ rfl Kr Kr Kr)) rfl sa) {} ?_))))
       rintro⟨A,c⟩
       exact TL.r 5 [] [(11,.slice A ((feed++([r2.1])).length) c)] {} (TL.done rfl (TE.nb (TE.next (TC.region (TL.r 2 [] [(27,.i (w64 ((k_2:Int)+1)))] {} (TL.done rfl (TE.rw 27 (.i (w64 ((k_2:Int)+1))) (.i ((k_2+1:Nat):Int)) Kr (ZF k_2 (by omega)) (TE.again (x:=(k_2,feed,A_feed,c_feed)) (k_2+1,(feed++([r2.1])),A,c) ⟨by omega,hI_2.trans (by subst hr1 hr2;rw[hd_2];exact Zb h3 (rfl)),sl⟩ (mN hlt_2) Kr (sb 120)))))))))
    ·have hd_2:=Qc h2
     refine TC.exit (TE.et (TE.et (TE.exit_same ?_)))
     exact TE.cut (feed,A_feed,c_feed) (⟨hI_2.trans (by rw[hd_2];exact rfl),sl⟩) Kr (sb 13)
   ·rintro⟨feed_2,A_feed_2,c_feed_2⟩ ⟨hJ_2,hl_feed_2⟩
    refine TE.next (TC.region (TL.r 2 [] [(52,.slice A_feeds feeds.length c_feeds),(53,.slice A_feed_2 feed_2.length c_feed_2)] {} (TL.nw 54 (fun b5=>.slice (Pa b5) 1 1) (fun b5=>Bk b5 #[.slice A_feed_2 feed_2.length c_feed_2] 83) (fun b5=>{}) (fun b5=>TL.rw 52 (.slice A_feeds feeds.length c_feeds) (.slice A_feeds o_feeds.length c_feeds) Kr (by rw[Ks hl_he_feeds]) (TL.opM (Γ:=AN) (sV (Builtin.append_ #[128,128] 128 #[.slice A_feeds o_feeds.length c_feeds,.slice (Pa b5) 1 1])) (some 55) (fun g=>.slice g.1 (o_feeds ++ [(⟨A_feed_2,c_feed_2,feed_2⟩:Sl Zm)]).length g.2) (fun g=>[Bk b5 #[.slice A_feed_2 feed_2.length c_feed_2] 83,Ow A_feed_2 c_feed_2 89 6 (feed_2.map Zm.c),Ow g.1 g.2 83 1 ((o_feeds ++ [(⟨A_feed_2,c_feed_2,feed_2⟩:Sl Zm)]).map Sl.c),.inr (Bag 89 6 Zm.c o_feeds)]) (fun g=>[(0,.slice A_sites sites.length c_sites),(1,.slice A_l l.length c_l),(2,.i time),(19,.slice A_sites sites.length c_sites),(20,.i (sites.length:Int)),(21,.i (k:Int)),(55,.slice g.1 ((o_feeds ++ [(⟨A_feed_2,c_feed_2,feed_2⟩:Sl Zm)]).length) g.2)]) (Qx (bytes:=24) 128 2 [(⟨A_feed_2,c_feed_2,feed_2⟩:Sl Zm)] Kr rfl rfl Sl.one rfl (fun w hM=>(Rd.lit hM 0 _ rfl Kr Kr Kr)) rfl (by have hz_:=Ks hl_he_feeds;rw[← hz_];exact sa)) Kr (fun g=>Kr) ?_)))))
    rintro⟨A_2,c_2⟩
    exact TL.rw 55 (.slice A_2 ((o_feeds ++ [(⟨A_feed_2,c_feed_2,feed_2⟩:Sl Zm)]).length) c_2) (.slice A_2 ((feeds ++ [feed_2]).length) c_2) Kr (by rw[← Ks (BZ (s:=(⟨A_feed_2,c_feed_2,feed_2⟩:Sl Zm)) hl_he_feeds)]) (TL.conv [.inr (Bag 89 6 Zm.c (o_feeds ++ [(⟨A_feed_2,c_feed_2,feed_2⟩:Sl Zm)])),Bk b5 #[.slice A_feed_2 feed_2.length c_feed_2] 83,Ow A_2 c_2 83 1 ((o_feeds ++ [(⟨A_feed_2,c_feed_2,feed_2⟩:Sl Zm)]).map Sl.c)] (fun _ hM=>Sat.bag_add (hM.perm (((List.Perm.cons _ (List.Perm.refl _)).trans (List.Perm.swap _ _ _)).trans (List.Perm.cons _ (((List.Perm.cons _ ((List.Perm.cons _ (List.Perm.refl _)).trans (List.Perm.swap _ _ _))).trans (List.Perm.swap _ _ _)).trans (List.Perm.cons _ (List.Perm.refl _))))))) (TL.conv [Ow A_2 c_2 83 1 ((o_feeds ++ [(⟨A_feed_2,c_feed_2,feed_2⟩:Sl Zm)]).map Sl.c),.inr (Bag 89 6 Zm.c (o_feeds ++ [(⟨A_feed_2,c_feed_2,feed_2⟩:Sl Zm)])),Bk b5 #[.slice A_feed_2 feed_2.length c_feed_2] 83] (fun _ hM=>hM.perm (px [2,0,1])) (TL.r 5 [] [(8,.slice A_2 ((feeds ++ [feed_2]).length) c_2)] {} (TL.done rfl (TE.nb (TE.next (TC.region (TL.r 2 [] [(21,.i (w64 ((k:Int)+1)))] {} (TL.done rfl (TE.rw 21 (.i (w64 ((k:Int)+1))) (.i ((k+1:Nat):Int)) Kr (ZF k (by omega)) (TE.again (x:=(k,feeds,A_feeds,c_feeds,o_feeds)) (k+1,(feeds ++ [feed_2]),A_2,c_2,(o_feeds ++ [(⟨A_feed_2,c_feed_2,feed_2⟩:Sl Zm)])) ⟨by omega,hI.trans (by rw[hd];exact Xk (hR_2.symm.trans hJ_2) (rfl)),sl,(BZ (s:=(⟨A_feed_2,c_feed_2,feed_2⟩:Sl Zm)) hl_he_feeds)⟩ (mN hlt) Kr (sb 3))))))))))))
  ·have hd:=Qc h1
   refine TC.exit (TE.et (TE.et (TE.exit_same ?_)))
   exact TE.cut (feeds,A_feeds,c_feeds,o_feeds) (⟨hI.trans (by rw[hd];exact rfl),sl,hl_he_feeds⟩) Kr (sb 3)
 ·rintro⟨feeds_2,A_feeds_2,c_feeds_2,o_feeds_2⟩ ⟨hJ,hl_feeds_2,hl_he_feeds_2⟩
  refine TE.nr (TL.r 1 [] [(58,.slice A_feeds_2 feeds_2.length c_feeds_2)] {} (TL.cn (Γ:=AN) 59 (Y5 feeds_2) (fun r3 g=>.tuple #[.slice g.1 r3.1.length g.2,.i r3.2]) (fun r3 g=>[Ow g.1 g.2 89 6 (r3.1.map Zm.c)]) (fun w hM=>HS A_feeds_2 c_feeds_2 feeds_2 o_feeds_2 w (hM.rd_at 0 rfl) (CE hl_he_feeds_2 (hM.le_at 0 rfl)) (hM.bag_at 1 rfl) hl_he_feeds_2) {} (fun r3 hr3=>?_)))
  rintro⟨A_3,c_3⟩
  refine TL.know (fun w hM=>hM.short_at 0 rfl) (fun s_r3_0=>TL.r 7 [] [(16,.slice A_3 r3.1.length c_3),(17,.i r3.2)] {} (TL.ns (TC.sr (TL.r 2 [] [(63,.b (r3.2 != 0))] {} (TL.next rfl (TC.cond (r3.2 != 0) rfl Kr (fun h4=>?_) (fun h4=>?_)))))))
  ·refine TC.sr (TL.r 2 [] [(6,.slice none 0 0),(7,.b false)] {} (TL.next rfl (TC.ret (TE.rt ?_))))
   have e:ZD sites l time=([],false):=by subst hr3;unfold ZD;exact Xk (hR.symm.trans hJ) (Zj h4 (rfl))
   refine TE.conv [Ow none 0 42 6 (([]:List Zg).map Zg.c),Ow A_3 c_3 89 6 (r3.1.map Zm.c),Ow A_feeds_2 c_feeds_2 83 1 (o_feeds_2.map Sl.c),.inr (Bag 89 6 Zm.c o_feeds_2)] (fun _ hM=>hM.emptyrow none 42 6) ?_
   rw[e]
   exact TE.retM (.inl rfl) (none,0) [] (.tuple #[.slice none 0 0,.b false]) {} rfl (fun _ hM=>hM.sub (sb 1))
  ·refine TC.snr (TL.r 2 [] [(65,.slice A_sites sites.length c_sites),(66,.slice A_3 r3.1.length c_3)] {} (TL.cn (Γ:=AN) 67 (Xm sites r3.1) (fun r4 g=>.tuple #[.slice g.1 r4.1.length g.2,.i r4.2]) (fun r4 g=>[Ow g.1 g.2 42 6 (r4.1.map Zg.c)]) (fun w hM=>HO A_sites c_sites sites A_3 c_3 r3.1 w (h_sites.sat hM) hc_sites (hM.rd_at 0 rfl) (hM.le_at 0 rfl) (hT.sat hM)) {} (fun r4 hr4=>?_)))
   rintro⟨A_4,c_4⟩
   refine TL.know (fun w hM=>hM.short_at 0 rfl) (fun s_r4_0=>TL.r 8 [] [(17,.i r4.2),(18,.slice A_4 r4.1.length c_4)] {} (TL.nr (TL.r 5 [] [(6,.slice A_4 r4.1.length c_4),(7,.b (r4.2==0))] {} (TL.next rfl (TC.ret ?_)))))
   have e:ZD sites l time=(r4.1,r4.2==0):=by subst hr3 hr4;unfold ZD;exact Xk (hR.symm.trans hJ) (Zb h4 (rfl))
   rw[e]
   exact TE.retM (.inl rfl) (A_4,c_4) [] (.tuple #[.slice A_4 r4.1.length c_4,.b (r4.2==0)]) {} rfl (fun _ hM=>hM.sub (sb 1))
end Go.Sky
end
section
namespace Go.Sky
open Go Go.Eng Go.Glue Go.Srt
def JS:Zi:=⟨2,⟨30000,40000⟩,400000,80,3⟩
structure Site (s:Zi):Prop where
 chk:Yd s=0
 x:-20000≤s.At.X∧s.At.X≤30000
 y:0≤s.At.Y∧s.At.Y≤40000
 reach:s.Reach=400000
 rerr:s.RangeError≤80
 aerr:s.AzimuthError≤3
theorem GH:Site JG:=⟨by kernel_rfl,by decide,by decide,rfl,by decide,by decide⟩
theorem HT:Site JS:=⟨by kernel_rfl,by decide,by decide,rfl,by decide,by decide⟩
theorem V1 {s:Zi} (hs:Site s) {f:Zf} (h:Q5 f) {t:Int} (ht:0≤t∧t≤200):(Z4 s (QN f t)).2=0:=by
 have p:=Ug h ht
 have hx:=hs.x;have hy:=hs.y
 refine RQ hs.chk (Le h ht) ?_
 unfold QN
 simp only
 rw[p.1,hs.reach]
 exact Lh (X:=130000) (Y:=120000) (by unfold PIn;omega) (by unfold PIn;simp only;omega) (by decide) (by simp only;omega) (by simp only;omega) (by decide)
theorem Fj {s:Zi} (hs:Site s) {f:Zf} (h:Q5 f) {T:Nat} (hT:T≤200) :
  (ZH s (Z4 s (QN f (T:Int))).1).2=0∧VE (ZH s (Z4 s (QN f (T:Int))).1).1 (T:Int) f.height f.code (Yn f T):=by
 have ht:0≤(T:Int)∧(T:Int)≤200:=by omega
 have hp:=V1 hs h ht
 have hk:=UW hp
 have hra:=HM hp
 have haz:=VO hp
 have hpo:=Kz hp
 have pl:=Ug h ht
 have hsx:=hs.x;have hsy:=hs.y
 have pi:PIn (QN f (T:Int)).At:=by unfold QN PIn;simp only;rw[pl.1];simp only;omega
 have si:PIn s.At:=by unfold PIn;omega
 have q:=Uy si pi
 have a:=Uj (x:=s.At.X-(QN f (T:Int)).At.X) (n:=125000) (by unfold QN;simp only;rw[pl.1];simp only;omega)
 have b:=Uj (x:=s.At.Y-(QN f (T:Int)).At.Y) (n:=115000) (by unfold QN;simp only;rw[pl.1];simp only;omega)
 have hrange:(Z4 s (QN f (T:Int))).1.Range≤175000:=by
  rw[hpo.2.2.2.2]
  have r:=Fg (n:=ZN s.At (QN f (T:Int)).At) (by rw[q.1];exact⟨by omega,q.2⟩)
  simp only
  rcases Int.lt_or_le 175000 (XC (ZN s.At (QN f (T:Int)).At)) with g|g
  ·exfalso
   have:=Int.mul_le_mul (Int.le_of_lt g) (Int.le_of_lt g) (by decide) r.1
   rw[q.1] at r this
   omega
  ·exact g
 have hx:=RR (s:=s) (p:=(Z4 s (QN f (T:Int))).1) hs.chk hk.1 hk.2 ⟨hra.1,by omega⟩ haz (by omega) (by omega)
 have hh:=Lj hp hx
 obtain⟨_,_,_,vx,vy,_,_,_,xi,xe,_,xt,xh,xc⟩:=WN hx
 have e0:=OS hx
 have re:=hs.rerr;have ae:=hs.aerr;have ae0:=hpo.2.1.aerr
 have m:(Z4 s (QN f (T:Int))).1.Range*s.AzimuthError≤175000*3:=Int.mul_le_mul hrange ae (by omega) (by decide)
 refine⟨hx,?_,?_,?_,?_,?_⟩
 ·rw[xt,hpo.2.2.2.2];rfl
 ·rw[xh,hpo.2.2.2.2];rfl
 ·rw[xc,hpo.2.2.2.2];rfl
 ·refine⟨e0.1,?_⟩
  rw[xe]
  omega
 ·have wy:(QN f (T:Int)).At=Yn f T:=GU h hT
  rw[Fb xi pi,wy] at hh
  exact⟨e0.1,hh⟩
def Ln (fs:List Zf) (T:Int) (p:Zm) (s:Zi) (f:Zf):Prop:=(s=JG∨s=JS)∧f∈fs∧p=(Z4 s (QN f T)).1
theorem WO {s:Zi} (h:s=JG∨s=JS):Site s:=by
 rcases h with rfl|rfl
 ·exact GH
 ·exact HT
theorem SC {p:Zm} {s:Zi} (h:s.ID≠p.Radar) (xs:List Zi) (k:Nat) (out:List Zg):Y3 p (s::xs) k out=Y3 p xs (k+1) out:=by
 rw[Y3,show (s.ID != p.Radar)=true by simpa using h,cond_true]
theorem LZ {p:Zm} {s:Zi} (h:p.Radar=s.ID) (h0:(ZH s p).2=0) (xs:List Zi) (k:Nat) (out:List Zg):Y3 p (s::xs) k out=Y3 p xs (k+1) (out ++ [(ZH s p).1]):=by
 rw[Y3,show (s.ID != p.Radar)=false by simp[h],cond_false]
 simp only
 rw[h0]
 rfl
theorem RV {p:Zm} {s:Zi} (hs:s=JG∨s=JS) (hr:p.Radar=s.ID) (h0:(ZH s p).2=0) (out:List Zg):Y3 p [JG,JS] 0 out=out ++ [(ZH s p).1]:=by
 rcases hs with rfl|rfl
 ·rw[LZ hr h0,SC (by rw[hr];decide)]
  rfl
 ·rw[SC (by rw[hr];decide),LZ hr h0]
  rfl
theorem BL {fs:List Zf} (hf:∀ f∈fs,Q5 f) {T:Nat} (hT:T≤200):∀ (pl:List Zm) (k:Nat) (out:List Zg),(∀ p∈pl,∃ s f,Ln fs (T:Int) p s f) →
  ∃ ys,Qj [JG,JS] pl k out=out++ys∧JC (fun p y=>∃ s f,Ln fs (T:Int) p s f∧y=(ZH s p).1) pl ys
 | [],k,out,_=>⟨[],by unfold Qj;simp,.nil⟩
 | p::pl,k,out,h=>by
  obtain⟨s,f,hs,hff,hp⟩:=h p (List.mem_cons_self ..)
  have ho:=WO hs
  have hk:=UW (V1 ho (hf f hff) (t:=(T:Int)) (by omega))
  have hx:=(Fj ho (hf f hff) hT).1
  rw[← hp] at hk hx
  obtain⟨ys,e,q⟩:=BL hf hT pl (k+1) (out ++ [(ZH s p).1]) fun p hp=>h p (List.mem_cons_of_mem _ hp)
  refine⟨_::ys,?_,.cons ⟨s,f,⟨hs,hff,hp⟩,rfl⟩ q⟩
  unfold Qj Y6
  simp only
  rw[RV hs hk.2 hx,e,List.append_assoc]
  rfl
theorem BM:∀ (xs:List Zm) (k:Nat),(∀ p∈xs,ZM p=0)→XD xs k=.inl ()
 | [],k,_=>rfl
 | x::xs,k,h=>by
  rw[XD]
  try simp only
  rw[h x List.mem_cons_self]
  simp only[bne_self_eq_false,cond_false]
  exact BM xs (k+1) fun p hp=>h p (List.mem_cons_of_mem _ hp)
theorem HU {T:Type} (q:T→T→Bool):∀ (l:List T) (p:T),(GF q p l).Sublist l
 | [],_=>.slnil
 | b::l,p=>by
  rw[GF]
  split
  ·exact(HU q l b).cons b
  ·exact(HU q l b).cons_cons b
theorem ND {T:Type} {q:T→T→Bool} (hq:∀ a b,q a b=true→a=b) {x:T}:∀ (l:List T) (p:T),x∈l→x=p∨x∈GF q p l
 | b::l,p,h=>by
  have hb:x=b→x=p∨x∈GF q p (b::l):=by
   rintro rfl
   rw[GF]
   split
   ·rename_i g;exact .inl (hq _ _ g)
   ·exact .inr (List.mem_cons_self ..)
  rcases List.mem_cons.1 h with h|h
  ·exact hb h
  ·rcases ND hq l b h with h|h
   ·exact hb h
   ·right
    rw[GF]
    split
    ·exact h
    ·exact List.mem_cons_of_mem _ h
theorem Ob {T:Type} (q:T→T→Bool) (l:List T):(cpt q l).Sublist l:=by
 cases l with
 | nil=>exact .slnil
 | cons a l=>exact(HU q l a).cons_cons a
theorem Oc {T:Type} {q:T→T→Bool} (hq:∀ a b,q a b=true→a=b) {x:T} {l:List T} (h:x∈l):x∈cpt q l:=by
 cases l with
 | nil=>exact h
 | cons a l =>
  rcases List.mem_cons.1 h with rfl|h
  ·exact List.mem_cons_self ..
  ·rcases ND hq l a h with h|h
   ·rw[h];exact List.mem_cons_self ..
   ·exact List.mem_cons_of_mem _ h
theorem SD (a b:Zm) (h:Zm.eqb a b=true):a=b:=by
 rw[Zm.eqb_eq] at h
 exact of_decide_eq_true h
def XJ (s:Zi) (fs:List Zf) (T:Int):List Zm:=fs.map fun f=>(Z4 s (QN f T)).1
theorem NE {fs:List Zf} (hf:∀ f∈fs,Q5 f) {T:Nat} (hT:T≤200) {s:Zi} (hs:Site s) {p:Zm} (hp:p∈XJ s fs (T:Int)):ZM p=0∧p.Time=(T:Int):=by
 obtain⟨f,h,rfl⟩:=List.mem_map.1 hp
 have h0:=V1 hs (hf f h) (t:=(T:Int)) (by omega)
 exact⟨(UW h0).1,by rw[(Kz h0).2.2.2.2];rfl⟩
theorem HV {x:List Zm} {T:Int} (hx:∀ p∈x,ZM p=0∧p.Time=T):∀ (xs:List Zm) (k:Nat),k+xs.length=x.length→(∀ p∈xs,p∈x)→Qk x xs k=.inl ()
 | [],_,_,_=>rfl
 | p::xs,k,hl,h=>by
  rw[List.length_cons] at hl
  have hp:=hx p (h p (List.mem_cons_self ..))
  have ih:=HV hx xs (k+1) (by omega) fun p hp=>h p (List.mem_cons_of_mem _ hp)
  unfold Qk
  simp only
  rw[hp.1,show ((0:Int) != 0)=false from rfl,cond_false]
  have e:k-1<x.length:=by omega
  have ht:(x[k-1]?.getD Zm.zero).Time=T:=by
   rw[List.getElem?_eq_getElem e]
   exact(hx _ (List.getElem_mem e)).2
  rw[ht,hp.2,decide_eq_false (Int.lt_irrefl T),cond_false,ih]
  cases decide ((k:Int)>0) <;> rfl
theorem SE {a b:List Zm} {T:Int} (ha:∀ p∈a,ZM p=0∧p.Time=T) (hb:∀ p∈b,ZM p=0∧p.Time=T) (la:a.length≤256) (lb:b.length≤256):Y5 [a,b]=(cpt Zm.eqb (UG (a++b)),0):=by
 unfold Y5 Ql Ql Ql
 rw[HV ha a 0 (by omega) fun _ h=>h,HV hb b 0 (by omega) fun _ h=>h,decide_eq_false (show ¬ (a.length:Int)>256 by omega),decide_eq_false (show ¬ (b.length:Int)>256 by omega)]
 rfl
theorem Fo {s:Zi} (hs:Site s) {T:Nat} (hT:T≤200):∀ (xs:List Zf) (k:Nat) (feed:List Zm),(∀ f∈xs,Q5 f)→X6 (T:Int) s xs k feed=.inl (feed++XJ s xs (T:Int))
 | [],_,feed,_=>by unfold X6 XJ;simp
 | f::xs,k,feed,h=>by
  have h0:=V1 hs (h f (List.mem_cons_self ..)) (t:=(T:Int)) (by omega)
  unfold X6
  simp only
  rw[show (⟨(T:Int),ZU f (T:Int),f.height,f.code,0⟩:Zg)=QN f (T:Int) from rfl,h0,show ((0:Int) != 0)=false from rfl,cond_false,Fo hs hT xs (k+1) _ fun f hf=>h f (List.mem_cons_of_mem _ hf)]
  unfold XJ
  simp
theorem Oe {fs:List Zf} (hf:∀ f∈fs,Q5 f) (hn:fs.length≤3) {T:Nat} (hT:T≤200) :
  ∃ l,ZD ZG fs (T:Int)=(l,true)∧l.length≤6∧(∀ s∈l,∃ f∈fs,VE s (T:Int) f.height f.code (Yn f T))∧∀ f∈fs,∃ s∈l,s.Code=f.code:=by
 have q1:=fun p (hp:p∈XJ JG fs (T:Int))=>NE hf hT GH hp
 have q2:=fun p (hp:p∈XJ JS fs (T:Int))=>NE hf hT HT hp
 have l1:(XJ JG fs (T:Int)).length=fs.length:=List.length_map ..
 have l2:(XJ JS fs (T:Int)).length=fs.length:=List.length_map ..
 have hm:=SE q1 q2 (by omega) (by omega)
 obtain⟨pl,hpl⟩:∃ pl,pl=cpt Zm.eqb (UG (XJ JG fs (T:Int)++XJ JS fs (T:Int))):=⟨_,rfl⟩
 rw[← hpl] at hm
 have hperm:(UG (XJ JG fs (T:Int)++XJ JS fs (T:Int))).Perm (XJ JG fs (T:Int)++XJ JS fs (T:Int)):=List.mergeSort_perm ..
 have hsub:pl.Sublist (UG (XJ JG fs (T:Int)++XJ JS fs (T:Int))):=by rw[hpl];exact Ob ..
 have hin:∀ p∈pl,p∈XJ JG fs (T:Int)∨p∈XJ JS fs (T:Int):=fun p hp=>List.mem_append.1 (hperm.mem_iff.1 (hsub.mem hp))
 have hall:∀ p,p∈XJ JG fs (T:Int)→p∈pl:=fun p hp=>by
  rw[hpl];exact Oc SD (hperm.mem_iff.2 (List.mem_append.2 (.inl hp)))
 have hlen:pl.length≤6:=by
  have:=hsub.length_le
  rw[hperm.length_eq,List.length_append] at this
  omega
 have his:∀ p∈pl,∃ s f,Ln fs (T:Int) p s f:=fun p hp=>by
  rcases hin p hp with h|h
  ·obtain⟨f,h',rfl⟩:=List.mem_map.1 h;exact⟨JG,f,.inl rfl,h',rfl⟩
  ·obtain⟨f,h',rfl⟩:=List.mem_map.1 h;exact⟨JS,f,.inr rfl,h',rfl⟩
 obtain⟨ys,e,q⟩:=BL hf hT pl 0 [] his
 have hsp:Xm [JG,JS] pl=(ys,0):=by
  unfold Xm
  have c:YL pl=0:=by
   unfold YL
   rw[decide_eq_false (by omega),cond_false,BM pl 0 fun p hp=>by
    rcases hin p hp with h|h
    ·exact(q1 p h).1
    ·exact(q2 p h).1]
   rfl
  rw[show XU [JG,JS]=0 by kernel_rfl,c]
  simp only[bne_self_eq_false,cond_false]
  unfold Y6
  rw[e]
  rfl
 refine⟨ys,?_,by rw[q.len];exact hlen,fun s hs=>?_,fun f hff=>?_⟩
 ·rw[show ZG=[JG,JS] from rfl]
  unfold ZD X7 X7 X7
  rw[Fo GH hT fs 0 [] hf,Fo HT hT fs 0 [] hf]
  simp only[Sum.elim_inl,List.nil_append]
  rw[show ([XJ JG fs (T:Int)] ++ [XJ JS fs (T:Int)])=[XJ JG fs (T:Int),XJ JS fs (T:Int)] from rfl,hm]
  simp only
  rw[hsp]
  rfl
 ·obtain⟨p,hp,s',f,⟨h1,h2,rfl⟩,rfl⟩:=q.right hs
  exact⟨f,h2,(Fj (WO h1) (hf f h2) hT).2⟩
 ·obtain⟨y,hy,s',f',⟨h1,h2,h3⟩,h4⟩:=q.left (hall _ (List.mem_map.2 ⟨f,hff,rfl⟩))
  refine⟨y,hy,?_⟩
  have g:=(Fj (WO h1) (hf f' h2) hT).2
  rw[← h3] at g
  rw[h4,g.code]
  have c1:=Kz (V1 GH (hf f hff) (t:=(T:Int)) (by omega))
  have c2:=Kz (V1 (WO h1) (hf f' h2) (t:=(T:Int)) (by omega))
  have:=congrArg Zm.Code h3
  rw[c1.2.2.2.2,c2.2.2.2.2] at this
  exact this.symm
end Go.Sky
end
section
namespace Go.Sky
open Go Go.Eng Go.Proofs
def XQ (_x:Int):Bool :=
 false
instance:Inhabited Ze:=⟨Ze.zero⟩
set_option maxRecDepth 100000 in
theorem UY (_x:Int) (w:World):Calls Tryz.prog 11 #[.int .i64 _x] w (Ret w (.bool (XQ _x))):=by
 exact Zk (vs:=[.i _x]) (w:=w) Tryz.func11 rfl Tryz.ntmps11 rfl (TC.sr (TL.r 1 [] [(2,.b false)] {} (TL.nr (TL.r 1 [] [(2,.b false)] {} (TL.next rfl (TC.ret (TE.ret [] (.b false) {} (by unfold XQ;refine eS (fun z=>(.b z:Value)) ?_;exact rfl))))))))
def KG (l:List Zf):Nat→Nat→Int→Ze→(Int×Ze)
 | 0,_,last,t=>(last,t)
 | m+1,k,_,t=>let r3:=ZG
  let r4:=ZD r3 l (w64 (4*(k:Int)))
  cond (!r4.2) (
   default) (
   let r5:=XQ (k:Int)
   cond r5 (
    default) (
    let r6:=Zr t r4.1 (w64 (4*(k:Int)))
    cond (r6.2.1 != 0) (
     default) (
     KG l m (k+1) (w64 (4*(k:Int))) r6.2.2)))
def V2 (l:List Zf) (scans:Int):Ze×Int×Bool :=
 let r1:=ZK
 let r2:=Yf r1
 cond ((r2.2 != 0)||false) (
  (Ze.zero,0,false)) (
  Y6 (KG l ((scans:Int).toNat) 0 0 r2.1) (fun (last_2,t_2) =>
   (t_2,last_2,true)))
theorem RX {t:Ze} {l:List Zg} {time:Int} {r:List Track×Int×Ze} (hr:Zr t l time=r) (hl:l.length≤32) (hs:Sp time l) (h0:0≤time∧time≤200000) (h1:t.last<time) (hn:t.all.length≤32):r.2.1=0∧r.2.2.all.length≤32∧r.2.2.last=time:=by
 have hc:=Uc.2 ⟨hl,h0,h1,hs⟩
 have e:r.2.1=0:=by
  rw[← hr]
  unfold Zr
  simp only[hc]
  rfl
 rcases H2 hr with h|h
 ·exact absurd e h.1
 ·exact⟨e,h.2.2.2.2.2.1 hn,h.2.2.2.2.1⟩
set_option maxRecDepth 100000 in
theorem OU (A_l:Option Addr) (c_l:Nat) (l:List Zf) (scans:Int) (w:World) (hM:Sat (cx w) [] w) (h_l:Rd w 6 A_l (l.map Zf.c)) (hc_l:l.length≤c_l) (hT:Uh w) (hn:l.length≤4∧0≤scans∧scans≤12) (hs:∀ T:Int,0≤T→T≤48→(ZD ZG l T).2=true∧(ZD ZG l T).1.length≤32∧Sp T (ZD ZG l T).1):Calls Tryz.prog 10 #[.slice A_l l.length c_l,.int .i64 scans,.func (.func 11) #[] #[]] w (QW (Γ:=Nat×(Option Addr×Nat)) (cx w) (fun g=>.tuple #[.pointer (some ⟨g.1,0,none⟩),.int .i64 ((V2 l scans).2.1),.bool ((V2 l scans).2.2)]) (fun g=>[.inl (g.1,.cells (Ze.k (⟨⟨((V2 l scans).1).rules.Need,((V2 l scans).1).rules.Of,((V2 l scans).1).rules.Misses,((V2 l scans).1).rules.Accel,((V2 l scans).1).rules.Place,((V2 l scans).1).rules.Speed⟩,((V2 l scans).1).all,((V2 l scans).1).next,((V2 l scans).1).last⟩:Ze) g.2.1 g.2.2) 118 (0,0)),.inr (Own g.2.1 g.2.2 122 23 ((((V2 l scans).1).all).map followed.c))])):=by
 have s_l:=h_l.short;rw[List.length_map] at s_l
 refine Yv (w0:=(cx w)) (vs:=[.slice A_l l.length c_l,.i scans,.func (.func 11) #[] #[]]) hM Tryz.func10 rfl Tryz.ntmps10 rfl (TC.sr (TL.r 3 [] [(6,.pointer none),(7,.i 0),(8,.b false)] {} (TL.nr (TL.c 18 (ZK) (fun r1=>Zx.v r1) (fun w _=>KQ w) {} (fun r1 hr1=>TL.cm (Γ:=Nat×AN) 0 19 (Yf r1) (fun r2 g=>.tuple #[.p0 g.1,.i r2.2]) (fun r2 g=>[Bk g.1 (Ze.k r2.1 g.2.1 g.2.2) 118,Ow g.2.1 g.2.2 122 23 (r2.1.all.map followed.c)]) [] Kr (fun w hM=>UD r1 w hM (by subst hr1;rfl)) {} (fun r2 hr2=>?_))))))
 have kn_:r2.1.all.length≤32∧r2.1.last<0:=by rw[← hr2,← hr1];decide
 rintro⟨b_r2,A,c⟩
 refine TL.know (fun w hM=>hM.short_at 1 rfl) (fun s_r2_1=>TL.r 7 [] [(9,.p0 b_r2),(10,.i r2.2)] {} (TL.ns (TC.sr (TL.r 3 [] [(24,.b (r2.2 != 0))] {} (TL.j 24 (r2.2 != 0) 6 [] [] (fun β=>[(27,.b (β||false))]) Kr {} {} (TL.next rfl (TC.cond ((r2.2 != 0)||false) rfl Kr (fun h1=>?_) (fun h1=>?_))))))))
 ·exact((by have e_:r2.2=0:=(by rw[← hr2,← hr1];rfl);rw[e_] at h1;cases h1):False).elim
 ·have q1_0:=(QQ (Zt h1))
  refine TC.snr (TL.r 1 [] [(11,.i 0)] {} (TL.ns (TC.sr (TL.r 2 [] [(28,.i scans),(29,.i 0)] {} (TL.next rfl ?_)))))
  obtain⟨R1,hR⟩:∃ R,R=KG l ((scans:Int).toNat) 0 0 r2.1:=⟨_,rfl⟩
  refine TC.cut (S:=Int×Ze×(Option Addr)×Nat) (fun (last_2,t_2,A_t_2,c_t_2)=>[(9,.p0 b_r2),(11,.i last_2)]) (fun (last_2,t_2,A_t_2,c_t_2)=>[Bk b_r2 (Ze.k t_2 A_t_2 c_t_2) 118,Ow A_t_2 c_t_2 122 23 (t_2.all.map followed.c)]) (fun (last_2,t_2,A_t_2,c_t_2)=>R1=(last_2,t_2)∧(t_2.all.length≤32)) ?_ ?_
  ·refine TC.block (TC.lw (X:=Nat×Int×Ze×(Option Addr)×Nat) (fun (k,last,t,A_t,c_t)=>[(0,.slice A_l l.length c_l),(2,.func (.func 11) #[] #[]),(9,.p0 b_r2),(11,.i last),(28,.i scans),(29,.i (k:Int))]) (fun (k,last,t,A_t,c_t)=>[Bk b_r2 (Ze.k t A_t c_t) 118,Ow A_t c_t 122 23 (t.all.map followed.c)]) (fun (k,last,t,A_t,c_t)=>(scans:Int).toNat-k) (fun (k,last,t,A_t,c_t)=>k≤(scans:Int).toNat∧R1=KG l ((scans:Int).toNat-k) k last t∧(t.all.length≤32∧t.last<4*(k:Int))) ?_ (0,0,r2.1,A,c) ⟨Nat.zero_le _,hR,sz⟩ Kr (sb 3))
   rintro⟨k,last,t,A_t,c_t⟩ ⟨hk,hI,hl_iv0⟩
   refine TC.sr (TL.r 1 [] [(30,.b (decide ((k:Int)<scans)))] {} (TL.ns (TC.cond (decide ((k:Int)<scans)) rfl Kr (fun h2=>?_) (fun h2=>?_))))
   ·have hlt:k<(scans:Int).toNat:=by have:=of_decide_eq_true h2;first|omega|(simp at this;omega)
    have hd:(scans:Int).toNat-k=((scans:Int).toNat-(k+1))+1:=by omega
    refine TC.sn (TC.seq (TC.block (TC.sr (TL.r 2 [] [(12,.i (k:Int))] {} (TL.nr (TL.r 3 [] [(11,.i (w64 (4*(k:Int))))] {} (TL.nr (TL.cn (Γ:=AN) 35 (ZG) (fun r3 g=>.slice g.1 r3.length g.2) (fun r3 g=>[Ow g.1 g.2 85 6 (r3.map Zi.c)]) (fun w _=>U4 w) {} (fun r3 hr3=>?_)))))))))
    have kr_:r3.length=2:=by rw[← hr3];rfl
    rintro⟨A_2,c_2⟩
    refine TL.know (fun w hM=>hM.short_at 0 rfl) (fun s_r3_0=>TL.r 3 [] [(36,.slice A_l l.length c_l),(37,.i (w64 (4*(k:Int))))] {} (TL.cn (Γ:=AN) 38 (ZD r3 l (w64 (4*(k:Int)))) (fun r4 g=>.tuple #[.slice g.1 r4.1.length g.2,.b r4.2]) (fun r4 g=>[Ow g.1 g.2 42 6 (r4.1.map Zg.c)]) (fun w hM=>GG A_2 c_2 r3 A_l c_l l (w64 (4*(k:Int))) w (hM.rd_at 0 rfl) (hM.le_at 0 rfl) (h_l.sat hM) hc_l (hT.sat hM) sg) {} (fun r4 hr4=>?_)))
    have kw_:=hs (w64 (4*(k:Int))) (by rw[Zn (by omega)];omega) (by rw[Zn (by omega)];omega);rw[hr3,hr4] at kw_
    rintro⟨A_3,c_3⟩
    refine TL.know (fun w hM=>hM.short_at 0 rfl) (fun s_r4_0=>TL.r 9 [] [(13,.slice A_3 r4.1.length c_3),(14,.b r4.2)] {} (TL.ns (TC.sr (TL.r 2 [] [(42,.b (!r4.2))] {} (TL.next rfl (TC.cond (!r4.2) rfl Kr (fun h3=>?_) (fun h3=>?_)))))))
    ·exact((by rw[kw_.1] at h3;cases h3):False).elim
    ·refine TC.sn (TC.seq (TC.sr (TL.r 2 [] [(43,.func (.func 11) #[] #[]),(44,.i (k:Int))] {} (TL.c 45 (XQ (k:Int)) (fun r5=>.b r5) (fun w _=>UY (k:Int) w) {} (fun r5 hr5=>TL.next rfl (TC.cond r5 rfl Kr (fun h4=>?_) (fun h4=>?_)))))))
     ·exact((by rw[← hr5] at h4;cases h4):False).elim
     ·refine TC.snr (TL.r 3 [] [(47,.p0 b_r2),(48,.slice A_3 r4.1.length c_3),(49,.i (w64 (4*(k:Int))))] {} (TL.conv [Bk b_r2 (Ze.k t A_t c_t) 118,Ow A_t c_t 122 23 (t.all.map followed.c),Ow A_3 c_3 42 6 (r4.1.map Zg.c),Ow A_2 c_2 85 6 (r3.map Zi.c)] (fun _ hM=>hM.perm (px [2,3,0,1])) (TL.cm (Γ:=AN×AN) 3 50 (Zr t r4.1 (w64 (4*(k:Int)))) (fun r6 g=>.tuple #[.slice g.1.1 r6.1.length g.1.2,.i r6.2.1]) (fun r6 g=>[Bk b_r2 (Ze.k r6.2.2 g.2.1 g.2.2) 118,Ow g.2.1 g.2.2 122 23 (r6.2.2.all.map followed.c),Ow A_3 c_3 42 6 (r4.1.map Zg.c),Ow g.1.1 g.1.2 40 13 (r6.1.map Track.c)]) [Bk b_r2 (Ze.k t A_t c_t) 118,Ow A_t c_t 122 23 (t.all.map followed.c),Ow A_3 c_3 42 6 (r4.1.map Zg.c)] Kr (fun w hM=>Jb b_r2 t A_t c_t A_3 c_3 r4.1 (w64 (4*(k:Int))) w hM sg) {} (fun r6 hr6=>?_))))
      have kt_:=RX hr6 kw_.2.1 kw_.2.2 (by rw[Zn (by omega)];omega) (by rw[Zn (by omega)];omega) (by omega);rw[Zn (x:=4*(k:Int)) (by omega)] at kt_
      rintro⟨⟨A_4,c_4⟩,A_5,c_5⟩
      refine TL.know (fun w hM=>hM.short_at 1 rfl) (fun s_r6_1=>TL.know (fun w hM=>hM.short_at 3 rfl) (fun s_r6_3=>TL.r 9 [] [(16,.i r6.2.1)] {} (TL.nr (TL.r 2 [] [(54,.b (r6.2.1 != 0))] {} (TL.next rfl (TC.cond (r6.2.1 != 0) rfl Kr (fun h5=>?_) (fun h5=>?_)))))))
      ·exact((by rw[kt_.1] at h5;cases h5):False).elim
      ·have q5_0:=(QQ h5)
       exact TC.skip (TE.nb (TE.next (TC.region (TL.r 2 [] [(29,.i (w64 ((k:Int)+1)))] {} (TL.done rfl (TE.rw 29 (.i (w64 ((k:Int)+1))) (.i ((k+1:Nat):Int)) Kr (ZF k (by omega)) (TE.again (x:=(k,last,t,A_t,c_t)) (k+1,w64 (4*(k:Int)),r6.2.2,A_5,c_5) ⟨by omega,hI.trans (by subst hr1 hr2 hr3 hr4 hr5 hr6;rw[hd];exact Zb h3 (Zb h4 (Zb h5 (rfl)))),sl⟩ (mN hlt) Kr (sb 3))))))))
   ·have hd:(scans:Int).toNat-k=0:=by have:=of_decide_eq_false h2;first|omega|(simp at this;omega)
    refine TC.exit (TE.et (TE.et (TE.exit_same ?_)))
    exact TE.cut (last,t,A_t,c_t) (⟨hI.trans (by subst hr1 hr2;rw[hd];exact rfl),sl⟩) Kr (sb 3)
  ·rintro⟨last_2,t_2,A_t_2,c_t_2⟩ ⟨hJ,hl_ov0_0⟩
   refine TE.nr (TL.r 5 [] [(6,.p0 b_r2),(7,.i last_2),(8,.b true)] {} (TL.next rfl (TC.ret ?_)))
   have e:V2 l scans=(t_2,last_2,true):=by subst hr1 hr2;unfold V2;exact Zb h1 (Ye (hR.symm.trans hJ) (rfl))
   rw[e]
   exact TE.retM (.inl rfl) (b_r2,(A_t_2,c_t_2)) [] (.tuple #[.p0 b_r2,.i last_2,.b true]) {} rfl (fun _ hM=>hM.sub (sb 3))
end Go.Sky
end
section
namespace Go.Sky
open Go Go.Eng Go.Glue Go.Srt
def Lo (x:followed):Prop:=x.f.Track.State=1∧x.f.Track.Misses=0
theorem Og (x:followed) (h:Lo x):TA x:=.inr (.inl h.1)
structure Fls (fs:List Zf):Prop where
 fly:∀ f∈fs,Q5 f
 code:(fs.map fun f=>f.code).Nodup
 len:fs.length≤3
theorem Fls.perm {fs gs:List Zf} (h:Fls fs) (hp:gs.Perm fs):Fls gs:=⟨fun f hf=>h.fly f (hp.mem_iff.1 hf),(hp.map _).nodup_iff.2 h.code,by rw[hp.length_eq];exact h.len⟩
theorem Fp {fs gs:List Zf} (h:Fls fs) (hp:gs.Perm fs) {T:Nat} (hT:T≤200) :
  ∃ l,ZD ZG fs (T:Int)=(l,true)∧l.length≤6∧(∀ s∈l,OfF gs T s)∧∀ f∈gs,∃ s∈l,s.Code=f.code:=by
 obtain⟨l,l1,l2,l3,l4⟩:=Oe h.fly h.len hT
 exact⟨l,l1,l2,fun s hs=>by obtain⟨f,f1,f2⟩:=l3 s hs;exact⟨f,hp.mem_iff.2 f1,f2⟩,fun f hf=>l4 f (hp.mem_iff.1 hf)⟩
theorem RY {fs:List Zf} (h:Fls fs) (T:Int) (h0:0≤T) (h1:T≤48):(ZD ZG fs T).2=true∧(ZD ZG fs T).1.length≤32∧Sp T (ZD ZG fs T).1:=by
 obtain⟨n,rfl⟩:∃ n:Nat,T=(n:Int):=⟨T.toNat,by omega⟩
 obtain⟨l,l1,l2,l3,_⟩:=Fp h (.refl _) (T:=n) (by omega)
 rw[l1]
 exact⟨rfl,by show l.length≤32;omega,fun s hs=>by have:=VF h.fly (by omega) (l3 s hs);exact⟨this.1,this.2.1⟩⟩
theorem NF {fs gs:List Zf} (h:Fls fs) (hp:gs.Perm fs) {t:Ze} {t0 k:Nat} (ht:Trk gs t t0 TA) (hl:-1≤t.last∧t.last<((4*k:Nat):Int)) (hd:t0+4≤4*k∧4*k≤t0+20) (hT:4*k≤60) :
  ∃ r:Ze,(ZD ZG fs ((4*k:Nat):Int)).2=true∧Zr t (ZD ZG fs ((4*k:Nat):Int)).1 ((4*k:Nat):Int)=(r.all.map (fun x=>x.f.Track),0,r)∧Trk gs r (4*k) Lo∧r.last=((4*k:Nat):Int)∧ids r.all=ids t.all:=by
 obtain⟨l,l1,l2,l3,l4⟩:=Fp h hp (T:=4*k) (by omega)
 have g:=h.perm hp
 obtain⟨r,r1,r2,r3,r4⟩:=TB g.fly g.code (by have:=g.len;omega) ht hl hd hT (by omega) l3 l4
 rw[l1]
 exact⟨r,rfl,r1,r2,r3,r4⟩
theorem four (k:Nat) (hk:k≤100):w64 (4*(k:Int))=((4*k:Nat):Int):=by rw[Zn (by omega)];omega
theorem NG {fs gs:List Zf} (h:Fls fs) (hp:gs.Perm fs):∀ (m k:Nat) (t:Ze),1≤k→k+m≤15→Trk gs t (4*(k-1)) Lo→t.last=((4*(k-1):Nat):Int) →
  ∃ r:Ze,KG fs m k ((4*(k-1):Nat):Int) t=(((4*(k+m-1):Nat):Int),r)∧Trk gs r (4*(k+m-1)) Lo∧r.last=((4*(k+m-1):Nat):Int)∧ids r.all=ids t.all
 | 0,k,t,_,_,ht,hl=>⟨t,rfl,ht,hl,rfl⟩
 | m+1,k,t,h1,hk,ht,hl=>by
  obtain⟨r,q0,q1,q2,q3,q4⟩:=NF h hp (k:=k) (ht.weak Og) (by omega) (by omega) (by omega)
  obtain⟨r',e,p1,p2,p3⟩:=NG h hp m (k+1) r (by omega) (by omega) (by rw[Nat.add_sub_cancel];exact q2) (by rw[Nat.add_sub_cancel];exact q3)
  rw[Nat.add_sub_cancel] at e
  refine⟨r',?_,by rw[show k+(m+1)-1=k+1+m-1 by omega];exact p1,by rw[show k+(m+1)-1=k+1+m-1 by omega];exact p2,p3.trans q4⟩
  unfold KG
  simp only
  rw[four k (by omega),q0,q1]
  simp only[Bool.not_true,cond_false]
  rw[show XQ (k:Int)=false from rfl,show ((0:Int) != 0)=false from rfl]
  simp only[cond_false]
  rw[e,show k+(m+1)-1=k+1+m-1 by omega]
theorem OV:Yf ZK=(⟨ZK,[],0,-1⟩,0):=by rfl
theorem Oh {fs:List Zf} (h:Fls fs):∃ (r0 r:Ze) (gs:List Zf),gs.Perm fs∧(ZD ZG fs 0).2=true∧Zr ⟨ZK,[],0,-1⟩ (ZD ZG fs 0).1 0=(r0.all.map (fun x=>x.f.Track),0,r0) ∧
  (ZD ZG fs 4).2=true∧Zr r0 (ZD ZG fs 4).1 4=(r.all.map (fun x=>x.f.Track),0,r)∧Trk gs r 4 Lo∧r.last=4:=by
 obtain⟨l,l1,l2,l3,l4⟩:=Fp h (.refl _) (T:=0) (by omega)
 obtain⟨r0,gs,a1,a2,a3,a4⟩:=ME h.fly h.code (t:=⟨ZK,[],0,-1⟩) rfl (by omega) l3 l4
 obtain⟨r,q0,q1,q2,q3,q4⟩:=NF h a2 (k:=1) (a3.weak fun x hx=>.inl hx) (by rw[a4];decide) (by decide) (by decide)
 refine⟨r0,r,gs,a2,?_,?_,q0,q1,q2,q3⟩
 ·show (ZD ZG fs ((0:Nat):Int)).2=true
  rw[l1]
 ·show Zr _ (ZD ZG fs ((0:Nat):Int)).1 0=_
  rw[l1];exact a1
theorem SG {fs:List Zf} (h:Fls fs) {n:Nat} (hn:2≤n∧n≤15):∃ (r:Ze) (gs:List Zf),V2 fs (n:Int)=(r,((4*(n-1):Nat):Int),true)∧gs.Perm fs∧Trk gs r (4*(n-1)) Lo∧r.last=((4*(n-1):Nat):Int):=by
 obtain⟨r0,r1,gs,a1,a2,a3,a4,a5,a6,a7⟩:=Oh h
 obtain⟨m,rfl⟩:∃ m,n=m+2:=⟨n-2,by omega⟩
 obtain⟨r,e,b1,b2,b3⟩:=NG h a1 m 2 r1 (by decide) (by omega) a6 a7
 refine⟨r,gs,?_,a1,by rw[show m+2-1=2+m-1 by omega];exact b1,by rw[show m+2-1=2+m-1 by omega];exact b2⟩
 unfold V2
 dsimp only
 rw[OV,Int.toNat_natCast]
 dsimp only
 rw[show (((0:Int) != 0)||false)=false from rfl,cond_false]
 unfold KG
 simp only
 rw[show w64 (4*((0:Nat):Int))=0 from rfl,a2,a3]
 simp only[Bool.not_true,cond_false]
 rw[show XQ ((0:Nat):Int)=false from rfl,show ((0:Int) != 0)=false from rfl]
 simp only[cond_false]
 unfold KG
 simp only
 rw[show w64 (4*(((0:Nat)+1:Nat):Int))=4 from rfl,a4,a5]
 simp only[Bool.not_true,cond_false]
 rw[show XQ (((0:Nat)+1:Nat):Int)=false from rfl,show ((0:Int) != 0)=false from rfl]
 simp only[cond_false]
 have e2:KG fs m (0+1+1) 4 r1=(((4*(2+m-1):Nat):Int),r):=e
 rw[e2,show m+2-1=2+m-1 by omega]
 rfl
theorem Re (l:List Int):∀ (m k:Nat) (out:List Zf),k+m≤3→(∀ f∈out,f.code<100+4*(k:Int))→(out.map fun f=>f.code).Nodup→((ZZ l m k out).map fun f=>f.code).Nodup
 | 0,_,out,_,_,h=>h
 | m+1,k,out,hk,h1,h2=>by
  unfold ZZ
  dsimp only
  refine Re l m (k+1) _ (by omega) (fun f hf=>?_) ?_
  ·rcases List.mem_append.1 hf with hf|hf
   ·have:=h1 f hf;omega
   ·rw[List.mem_singleton.1 hf]
    show w64 (100+((4*k:Nat):Int))<_
    rw[Zn (by omega)];omega
  ·rw[List.map_append,List.map_singleton]
   refine List.pairwise_append.2 ⟨h2,List.pairwise_singleton _ _,fun a ha b hb=>?_⟩
   rw[List.mem_singleton.1 hb]
   obtain⟨f,hf,rfl⟩:=List.mem_map.1 ha
   have:=h1 f hf
   show f.code≠w64 (100+((4*k:Nat):Int))
   rw[Zn (by omega)];omega
theorem OW (l:List Int):Fls (Yt l):=by
 have h:=MA l
 exact⟨h.2,Re l (min (l.length/4) 3) 0 [] (by omega) (fun _ h=>nomatch h) .nil,h.1⟩
theorem NH {f:Zf} (hf:Q5 f) {x:Za} {t0 d:Nat} (h:Has f x t0) (ht:t0≤60) (hd:d≤60) :
  (Zo x ((t0+d:Nat):Int) 1).2=0∧(Zo x ((t0+d:Nat):Int) 1).1.In∧Knows (Zo x ((t0+d:Nat):Int) 1).1 (Yn f (t0+d)) f.speed∧(Zo x ((t0+d:Nat):Int) 1).1.Track.Code=f.code ∧
   (Zo x ((t0+d:Nat):Int) 1).1.Track.State=x.Track.State∧(Zo x ((t0+d:Nat):Int) 1).1.Track.Height=f.height∧(Zo x ((t0+d:Nat):Int) 1).1.Track.ID=x.Track.ID:=by
 by_cases h0:d=0
 ·subst h0
  rw[Nat.add_zero,← h.fol.time,Dh h.fol.inn (by decide)]
  exact⟨rfl,h.fol.inn,h.knows,h.fol.code,rfl,h.fol.high.1,rfl⟩
 ·obtain⟨p1,p2,p3,p4,p5,p6⟩:=Gw (Gx hf) (by decide) (Vz hf).1 h.fol h.knows (d:=d) (by omega) (by omega) (by omega) (by omega)
  rw[p2]
  exact⟨p1,p3,p4,h.fol.code,rfl,p6,rfl⟩
end Go.Sky
end
section
namespace Go.Sky
open Go Go.Eng Go.Glue
def UH (ok hit:Nat→Bool):Nat→Nat→Int×Int
 | 0,_=>(0,8)
 | m+1,k=>if ok k=true then (if hit k=true then ((k:Int),0) else UH ok hit m (k+1)) else (0,12)
def at_ (a b:Za) (acc:Int) (k:Nat):Za×Int:=Zo a (w64 (Q4 a.Track.Time b.Track.Time+(k:Int))) acc
def okF (a b:Za) (acc:Int) (k:Nat):Bool:=decide ((at_ a b acc k).2=0∧(Zo b (w64 (Q4 a.Track.Time b.Track.Time+(k:Int))) acc).2=0)
def NI (T:Int→Int→Int→Int→Sep→Bool) (a b:Za) (acc climb:Int) (c:Sep) (k:Nat):Bool :=
 T (ZN (at_ a b acc k).1.Track.At (Zo b (w64 (Q4 a.Track.Time b.Track.Time+(k:Int))) acc).1.Track.At)
  (w64 ((at_ a b acc k).1.Track.Radius+(Zo b (w64 (Q4 a.Track.Time b.Track.Time+(k:Int))) acc).1.Track.Radius))
  (Q4 (w64 ((at_ a b acc k).1.Track.Height-(Zo b (w64 (Q4 a.Track.Time b.Track.Time+(k:Int))) acc).1.Track.Height)) (w64 ((Zo b (w64 (Q4 a.Track.Time b.Track.Time+(k:Int))) acc).1.Track.Height-(at_ a b acc k).1.Track.Height)))
  (w64 (200+w64 (climb*w64 (w64 (w64 (2*w64 (Q4 a.Track.Time b.Track.Time+(k:Int)))-a.Track.Time)-b.Track.Time)))) c
theorem OX (a b:Za) (acc:Int) (k:Nat):(((at_ a b acc k).2 != 0)||((Zo b (w64 (Q4 a.Track.Time b.Track.Time+(k:Int))) acc).2 != 0))=!(okF a b acc k):=by
 unfold okF
 rw[Bool.eq_iff_iff];simp
theorem NJ (a b:Za) (acc cl:Int) (c:Sep):∀ (m k:Nat),Sum.elim (fun _=>((0:Int),(8:Int))) (fun r=>r) (Qg a b acc cl c m k)=UH (okF a b acc) (NI YU a b acc cl c) m k
 | 0,_=>rfl
 | m+1,k=>by
  have ih:=NJ a b acc cl c m (k+1)
  show Sum.elim _ _ (cond (((at_ a b acc k).2 != 0)||((Zo b (w64 (Q4 a.Track.Time b.Track.Time+(k:Int))) acc).2 != 0)) (.inr (0,12)) (cond (NI YU a b acc cl c k) (.inr ((k:Int),0)) (Qg a b acc cl c m (k+1))))=_
  rw[OX]
  unfold UH
  cases okF a b acc k
  ·rfl
  ·cases NI YU a b acc cl c k
   ·exact ih
   ·rfl
def NK (s:Sep) (sec acc cl:Int):Prop:=(0≤s.Lateral∧s.Lateral≤1000000)∧(0≤s.Vertical∧s.Vertical≤60000)∧(0≤sec∧sec≤300)∧(0≤acc∧acc≤20)∧(0≤cl∧cl≤200)
instance (s:Sep) (sec acc cl:Int):Decidable (NK s sec acc cl):=by unfold NK;infer_instance
theorem RZ {n h:Int}:Yx n h=decide (¬ (0≤n∧n≤h)):=by
 unfold Yx;rw[Bool.eq_iff_iff];simp
def Fq (T:Int→Int→Int→Int→Sep→Bool) (a b:Za) (s:Sep) (sec acc cl:Int):Int×Int :=
 if Zu a=0 then if Zu b=0 then if NK s sec acc cl then UH (okF a b acc) (NI T a b acc cl s) (sec+1).toNat 0 else (0,4) else (0,Zu b) else (0,Zu a)
theorem Oi {s:Sep} {sec acc cl:Int} {v:Int×Int}:(cond (Yx s.Lateral 1000000) (0,4) (cond (Yx s.Vertical 60000) (0,4) (cond (Yx sec 300) (0,4) (cond (Yx acc 20) (0,4) (cond (Yx cl 200) (0,4) v)))))=if NK s sec acc cl then v else (0,4):=by
 simp only[YN,RZ,decide_eq_true_eq]
 by_cases h:NK s sec acc cl
 ·rw[if_pos h]
  obtain⟨h1,h2,h3,h4,h5⟩:=h
  rw[if_neg (by omega),if_neg (by omega),if_neg (by omega),if_neg (by omega),if_neg (by omega)]
 ·rw[if_neg h]
  by_cases h1:0≤s.Lateral∧s.Lateral≤1000000
  ·by_cases h2:0≤s.Vertical∧s.Vertical≤60000
   ·by_cases h3:0≤sec∧sec≤300
    ·by_cases h4:0≤acc∧acc≤20
     ·have h5:¬ (0≤cl∧cl≤200):=fun h5=>h ⟨h1,h2,h3,h4,h5⟩
      rw[if_neg (by omega),if_neg (by omega),if_neg (by omega),if_neg (by omega),if_pos h5]
     ·rw[if_neg (by omega),if_neg (by omega),if_neg (by omega),if_pos h4]
    ·rw[if_neg (by omega),if_neg (by omega),if_pos h3]
   ·rw[if_neg (by omega),if_pos h2]
  ·rw[if_pos h1]
theorem SH (a b:Za) (s:Sep) (sec acc cl:Int):Xf a b s sec acc cl=Fq YU a b s sec acc cl:=by
 show Sum.elim (fun _=>cond (Yx s.Lateral 1000000) (0,4) (cond (Yx s.Vertical 60000) (0,4) (cond (Yx sec 300) (0,4) (cond (Yx acc 20) (0,4) (cond (Yx cl 200) (0,4) (Sum.elim (fun _=>(0,8)) (fun r=>r) (Qg a b acc cl s (sec+1).toNat 0))))))) (fun r=>r)
  (cond (Zu a != 0) (.inr (0,Zu a)) (cond (Zu b != 0) (.inr (0,Zu b)) (.inl ())))=_
 rw[NJ,Oi]
 unfold Fq
 by_cases h1:Zu a=0
 ·by_cases h2:Zu b=0
  ·simp[h1,h2]
  ·have e2:(Zu b != 0)=true:=by simpa using h2
   rw[if_pos h1,if_neg h2,e2,h1];rfl
 ·have e1:(Zu a != 0)=true:=by simpa using h1
  rw[if_neg h1,e1];rfl
theorem OY {a b c d R S:Int} (hR:0≤R) (hS:0≤S) (h1:a*a+b*b≤R*R) (h2:c*c+d*d≤S*S):a*c+b*d≤R*S:=by
 rcases Int.lt_or_le (R*S) (a*c+b*d) with h|h
 ·exfalso
  have hRS:0≤R*S:=Int.mul_nonneg hR hS
  have e1:(a*c+b*d)*(a*c+b*d)+(a*d-b*c)*(a*d-b*c)=(a*a+b*b)*(c*c+d*d):=by grind
  have e2:0≤(a*d-b*c)*(a*d-b*c):=by
   rcases Int.le_total 0 (a*d-b*c) with g|g
   ·exact Int.mul_nonneg g g
   ·rw[← Int.neg_mul_neg];exact Int.mul_nonneg (by omega) (by omega)
  have n1:∀ x:Int,0≤x*x:=fun x=>by
   rcases Int.le_total 0 x with g|g
   ·exact Int.mul_nonneg g g
   ·rw[← Int.neg_mul_neg];exact Int.mul_nonneg (by omega) (by omega)
  have e3:(a*a+b*b)*(c*c+d*d)≤(R*R)*(S*S):=Int.mul_le_mul h1 h2 (by have:=n1 c;have:=n1 d;omega) (n1 R)
  have e4:(R*R)*(S*S)=(R*S)*(R*S):=by grind
  have e5:(R*S+1)*(R*S+1)≤(a*c+b*d)*(a*c+b*d):=Int.mul_le_mul (by omega) (by omega) (by omega) (by omega)
  have e6:(R*S+1)*(R*S+1)=(R*S)*(R*S)+2*(R*S)+1:=by grind
  omega
 ·exact h
theorem NL {a b c d R S:Int} (hR:0≤R) (hS:0≤S) (h1:a*a+b*b<R*R) (h2:c*c+d*d≤S*S):(a+c)*(a+c)+(b+d)*(b+d)<(R+S)*(R+S):=by
 have k:=OY hR hS (Int.le_of_lt h1) h2
 have e7:(a+c)*(a+c)+(b+d)*(b+d)=(a*a+b*b)+(c*c+d*d)+2*(a*c+b*d):=by grind
 have e8:(R+S)*(R+S)=R*R+S*S+2*(R*S):=by grind
 omega
theorem BN {ok hit:Nat→Bool} {K:Nat} (hok:∀ j,j<K→ok j=true):∀ (m k:Nat),m+k≤K →
  ((UH ok hit m k).2=0∨(UH ok hit m k).2=8)∧∀ j,k≤j→j<m+k→hit j=true→(UH ok hit m k).2=0∧(UH ok hit m k).1≤(j:Int)
 | 0,k,_=>⟨.inr rfl,fun j h1 h2 _=>by omega⟩
 | m+1,k,hK=>by
  unfold UH
  rw[if_pos (hok k (by omega))]
  by_cases h1:hit k=true
  ·rw[if_pos h1];exact⟨.inl rfl,fun j h2 _ _=>⟨rfl,by dsimp only;omega⟩⟩
  ·rw[if_neg h1]
   obtain⟨g1,g2⟩:=BN hok m (k+1) (by omega)
   refine⟨g1,fun j h2 h3 h4=>?_⟩
   by_cases e:j=k
   ·subst e;exact absurd h4 h1
   ·exact g2 j (by omega) (by omega) h4
theorem Cb {x1 y1 x2 y2 u1 v1 u2 v2 R S L:Int} (h1:Qb (u1-x1) (v1-y1) R) (h2:Qb (u2-x2) (v2-y2) S) (hL:0≤L) (h:(x1-x2)*(x1-x2)+(y1-y2)*(y1-y2)<L*L) :
  (u1-u2)*(u1-u2)+(v1-v2)*(v1-v2)<(L+(R+S))*(L+(R+S)):=by
 have b:=h1.add h2.neg
 rw[show u1-x1 + -(u2-x2)=(u1-u2)-(x1-x2) by omega,show v1-y1 + -(v2-y2)=(v1-v2)-(y1-y2) by omega] at b
 have t:=NL hL b.1 h b.2
 rw[show x1-x2+(u1-u2-(x1-x2))=u1-u2 by omega,show y1-y2+(v1-v2-(y1-y2))=v1-v2 by omega] at t
 exact t
theorem NM {f g:Zf} (hf:Q5 f) (hg:Q5 g) (hh:f.height=g.height) {x y:Za} {t0:Nat} (hx:Has f x t0) (hy:Has g y t0) (ht:t0≤60) {lat:Int} (hlat:0≤lat∧lat≤10000) {k:Nat} (hk:k≤60) :
  okF x y 1 k=true∧(((Yn f (t0+k)).X-(Yn g (t0+k)).X)*((Yn f (t0+k)).X-(Yn g (t0+k)).X)+((Yn f (t0+k)).Y-(Yn g (t0+k)).Y)*((Yn f (t0+k)).Y-(Yn g (t0+k)).Y)<lat*lat→NI YU x y 1 0 ⟨lat,1000⟩ k=true):=by
 obtain⟨p1,p2,p3,_,_,p6,_⟩:=NH hf hx ht hk
 obtain⟨q1,q2,q3,_,_,q6,_⟩:=NH hg hy ht hk
 have hm:Q4 x.Track.Time y.Track.Time=(t0:Int):=by rw[hx.fol.time,hy.fol.time];unfold Q4;split <;> rfl
 have wt:w64 (Q4 x.Track.Time y.Track.Time+(k:Int))=((t0+k:Nat):Int):=by rw[hm,Zn (by omega)];omega
 refine⟨?_,fun hn=>?_⟩
 ·unfold okF at_
  rw[wt,p1,q1];rfl
 ·unfold NI at_
  rw[wt,p6,q6,hh,Int.zero_mul]
  generalize (Zo x ((t0+k:Nat):Int) 1).1=r at p2 p3
  generalize (Zo y ((t0+k:Nat):Int) 1).1=s at q2 q3
  have hr:=p2.1.2.2.2.2
  have hs:=q2.1.2.2.2.2
  have b:=Cb p3.1 q3.1 hlat.1 hn
  have e1:=(Ut p2.1.2.1 q2.1.2.1).1
  have m:=JL (x:=lat+(r.Track.Radius+s.Track.Radius)) (n:=8010000) (by omega)
  unfold YU
  dsimp only
  rw[Zn (x:=r.Track.Radius+s.Track.Radius) (by omega),Zn (x:=lat+(r.Track.Radius+s.Track.Radius)) (by omega),Zn (x:=(lat+(r.Track.Radius+s.Track.Radius))*(lat+(r.Track.Radius+s.Track.Radius))) (by omega),e1,decide_eq_true b,cond_true,show w64 (200+w64 0)=200 by decide,Int.sub_self,show Q4 (w64 0) (w64 0)=0 by decide]
  rfl
theorem NN {f g:Zf} (hf:Q5 f) (hg:Q5 g) (hh:f.height=g.height) {x y:Za} {t0:Nat} (hx:Has f x t0) (hy:Has g y t0) (ht:t0≤60) {lat:Int} (hlat:0≤lat∧lat≤10000) :
  ((Xf x y ⟨lat,1000⟩ 60 1 0).2=0∨(Xf x y ⟨lat,1000⟩ 60 1 0).2=8)∧∀ k:Nat,k≤60→((Yn f (t0+k)).X-(Yn g (t0+k)).X)*((Yn f (t0+k)).X-(Yn g (t0+k)).X)+((Yn f (t0+k)).Y-(Yn g (t0+k)).Y)*((Yn f (t0+k)).Y-(Yn g (t0+k)).Y)<lat*lat →
   (Xf x y ⟨lat,1000⟩ 60 1 0).2=0∧(Xf x y ⟨lat,1000⟩ 60 1 0).1≤(k:Int):=by
 have hfirst:Xf x y ⟨lat,1000⟩ 60 1 0=UH (okF x y 1) (NI YU x y 1 0 ⟨lat,1000⟩) 61 0:=by
  rw[SH]
  unfold Fq
  rw[if_pos (XO.2 hx.fol.inn),if_pos (XO.2 hy.fol.inn),if_pos ⟨by dsimp only;omega,by dsimp only;omega,by decide,by decide,by decide⟩]
  rfl
 rw[hfirst]
 have sc:=BN (ok:=okF x y 1) (hit:=NI YU x y 1 0 ⟨lat,1000⟩) (K:=61) (fun j hj=>(NM hf hg hh hx hy ht hlat (by omega)).1) 61 0 (by omega)
 exact⟨sc.1,fun k hk hn=>sc.2 k (by omega) (by omega) ((NM hf hg hh hx hy ht hlat hk).2 hn)⟩
theorem BO (l:List Int):∀ (m k:Nat) (out:List Zf),k+m≤3→((k=0∧out=[])∨(out ≠ []∧∀ f,out[0]?=some f→(-60000≤f.at_.X∧f.at_.X ≤ -55000) ∧ -20000≤f.at_.Y∧f.at_.Y≤20000)) →
  ∀ f,(ZZ l m k out)[0]?=some f→(-60000≤f.at_.X∧f.at_.X ≤ -55000) ∧ -20000≤f.at_.Y∧f.at_.Y≤20000
 | 0,_,out,_,h=>fun f hf=>by
  rcases h with ⟨_,rfl⟩|⟨_,h⟩
  ·cases hf
  ·exact h f hf
 | m+1,k,out,hk,h=>by
  unfold ZZ
  dsimp only
  refine BO l m (k+1) _ (by omega) (.inr ⟨by simp,fun f hf=>?_⟩)
  rcases h with ⟨rfl,rfl⟩|⟨h0,h⟩
  ·rw[List.nil_append] at hf
   have hf:=Option.some.inj hf
   subst hf
   generalize hr1:Z5 (l[4*0]?.getD 0) 0 5000=r1
   generalize hr2:Z5 (l[(w64 (((4*0:Nat):Int)+1)).toNat]?.getD 0) (-20000) 20000=r2
   have b1:=QV hr1 (by decide) (by decide) (by decide)
   have b2:=QV hr2 (by decide) (by decide) (by decide)
   dsimp only
   rw[show w64 (-60000+w64 (60000*w64 (((4*0:Nat):Int).tdiv 4)))=-60000 by decide,Zn (by omega)]
   omega
  ·refine h f ?_
   cases out with
   | nil=>exact absurd rfl h0
   | cons a out=>exact hf
theorem NP {l:List Int} {fs r6 r7:List Zf} (hl:Yt l=fs) (h2:2≤fs.length) {r4 r5:Int} (b4:-15000≤r4∧r4≤15000) (b5:-15000≤r5∧r5≤15000)
  (e6:((fs.take 2).set 1 (⟨⟨w64 (((((fs.take 2)[0]?.getD Zf.zero).at_).X)+r4),w64 (((((fs.take 2)[0]?.getD Zf.zero).at_).Y)+r5)⟩,(((fs.take 2)[1]?.getD Zf.zero).speed),((fs.take 2)[1]?.getD Zf.zero).height,((fs.take 2)[1]?.getD Zf.zero).code⟩:Zf))=r6)
  (e7:(r6.set 1 (⟨((r6[1]?.getD Zf.zero).at_),((r6[1]?.getD Zf.zero).speed),(r6[0]?.getD Zf.zero).height,(r6[1]?.getD Zf.zero).code⟩:Zf))=r7) :
  ∃ f g:Zf,r7=[f,g]∧f.height=g.height∧Fls r7:=by
 have hfl:=OW l
 have hfirst:=BO l (min (l.length/4) 3) 0 [] (by omega) (.inl ⟨rfl,rfl⟩)
 have hL:ZZ l (min (l.length/4) 3) 0 []=fs:=hl
 rw[hL] at hfirst
 rw[hl] at hfl
 obtain⟨f,g,rest,rfl⟩:∃ f g rest,fs=f::g::rest:=by
  match fs,h2 with
  | f::g::rest,_=>exact⟨f,g,rest,rfl⟩
 subst e6 e7
 have hf:=hfirst f rfl
 have ff:=hfl.fly f (List.mem_cons_self ..)
 have fg:=hfl.fly g (List.mem_cons_of_mem _ (List.mem_cons_self ..))
 have fx:=ff.x;have fy:=ff.y
 refine⟨f,⟨⟨w64 (f.at_.X+r4),w64 (f.at_.Y+r5)⟩,g.speed,f.height,g.code⟩,rfl,rfl,?_⟩
 show Fls [f,⟨⟨w64 (f.at_.X+r4),w64 (f.at_.Y+r5)⟩,g.speed,f.height,g.code⟩]
 rw[Zn (by omega),Zn (by omega)]
 refine⟨fun a ha=>?_,?_,by show (2:Nat)≤3;decide⟩
 ·rcases List.mem_cons.1 ha with rfl|ha
  ·exact ff
  ·rw[List.mem_singleton.1 ha]
   exact⟨by dsimp only;omega,by dsimp only;omega,fg.vx,fg.vy,ff.h,fg.c⟩
 ·have c:=hfl.code
  simp only[List.map_cons,List.nodup_cons,List.mem_cons,not_or] at c
  show [f.code,g.code].Nodup
  refine List.nodup_cons.2 ⟨fun h=>?_,List.nodup_cons.2 ⟨fun h=>(by cases h),.nil⟩⟩
  exact c.1.1 (List.mem_singleton.1 h)
theorem Lp {p q:P} (hp:(-112000≤p.X∧p.X≤112000) ∧ -112000≤p.Y∧p.Y≤112000) (hq:(-112000≤q.X∧q.X≤112000) ∧ -112000≤q.Y∧q.Y≤112000):Qf p q=(p.X-q.X)*(p.X-q.X)+(p.Y-q.Y)*(p.Y-q.Y):=by
 have b1:=JL (x:=p.X-q.X) (n:=224000) (by omega)
 have b2:=JL (x:=p.Y-q.Y) (n:=224000) (by omega)
 unfold Qf
 rw[Zn (x:=p.X-q.X) (by omega),Zn (x:=p.Y-q.Y) (by omega),Zn (x:=(p.X-q.X)*(p.X-q.X)) (by omega),Zn (x:=(p.Y-q.Y)*(p.Y-q.Y)) (by omega),Zn (by omega)]
end Go.Sky
end
section
namespace Go.Sky
open Go Go.Eng Go.Proofs
def Xu (r1:Int) (r7:List Zf) (r8:Ze×Int×Bool) (r10:Int×Int):Nat→Nat→((Unit) ⊕ (Bool))
 | 0,_=>.inl ()
 | m+1,k=>let r11:=ZU (r7[0]?.getD Zf.zero) (w64 (r8.2.1+(k:Int)))
  let r12:=ZU (r7[1]?.getD Zf.zero) (w64 (r8.2.1+(k:Int)))
  let r13:=Qf r11 r12
  cond (decide (r13<(w64 (r1*r1)))) (
   .inr ((r10.2==0)&&(decide (r10.1≤(k:Int))))) (
   Xu r1 r7 r8 r10 m (k+1))
def YS (l:List Int) (x:Int) (y:Int) (s:Sep):Bool :=
 let r1:=Z5 s.Lateral 1000 9000
 let r2:=Yt l
 let r3:=XA
 cond (!r3) (
  false) (
  cond (decide ((r2.length:Int)<2)) (
   true) (
   let r4:=Z5 x (-15000) 15000
   let r5:=Z5 y (-15000) 15000
   let r6:=((r2.take 2).set 1 (⟨⟨w64 (((((r2.take 2)[0]?.getD Zf.zero).at_).X)+r4),w64 (((((r2.take 2)[0]?.getD Zf.zero).at_).Y)+r5)⟩,(((r2.take 2)[1]?.getD Zf.zero).speed),((r2.take 2)[1]?.getD Zf.zero).height,((r2.take 2)[1]?.getD Zf.zero).code⟩:Zf))
   let r7:=(r6.set 1 (⟨((r6[1]?.getD Zf.zero).at_),((r6[1]?.getD Zf.zero).speed),(r6[0]?.getD Zf.zero).height,(r6[1]?.getD Zf.zero).code⟩:Zf))
   let r8:=V2 r7 5
   cond (!r8.2.2) (
    false) (
    let r9:=YP r8.1
    cond ((r9.length:Int) != 2) (
     false) (
     let r10:=Xf (r9[0]?.getD Za.zero) (r9[1]?.getD Za.zero) (⟨r1,1000⟩:Sep) 60 1 0
     Sum.elim (fun _ =>
      (r10.2==0)||(r10.2==8)) (fun r=>r) (Xu r1 r7 r8 r10 61 0)))))
theorem Lr {fs:List Zf} (h:Fls fs) {r:Ze×Int×Bool} (hr:V2 fs 5=r):r.1.all.length≤3∧r.2.1=16∧r.1.last=16:=by
 obtain⟨t,gs,e,p,q,q2⟩:=SG h (n:=5) (by decide)
 rw[show (5:Int)=((5:Nat):Int) from rfl,e] at hr
 subst hr
 exact⟨by rw[q.all.len,p.length_eq];exact h.len,rfl,q2⟩
set_option maxHeartbeats 4000000 in
set_option maxRecDepth 100000 in
theorem Uk (A_l:Option Addr) (c_l:Nat) (l:List Int) (x:Int) (y:Int) (s:Sep) (w:World) (h_l:Rd w 1 A_l (l.map ic)) (hc_l:l.length≤c_l) (hT:Uh w):Calls Tryz.prog 5 #[.slice A_l l.length c_l,.int .i64 x,.int .i64 y,Sep.v s] w (Ret w (.bool (YS l x y s))):=by
 have s_l:=h_l.short;rw[List.length_map] at s_l
 refine Zk (vs:=[.slice A_l l.length c_l,.i x,.i y,Sep.v s]) (w:=w) Tryz.func5 rfl Tryz.ntmps5 rfl (TC.sr (TL.nw 7 (fun b1=>.p0 b1) (fun b1=>Bk b1 (Sep.c s) 62) (fun b1=>{}) (fun b1=>TL.r 2 [] [(8,.b false)] {} (TL.nr (TL.r 2 [0] [(18,.i s.Lateral)] {} (TL.c 19 (Z5 s.Lateral 1000 9000) (fun r1=>.i r1) (fun w _=>Xp s.Lateral 1000 9000 w (by first|omega|first|decide|omega|(simp only[Yi];omega)|(simp <;> omega))) {} (fun r1 hr1=>TL.r 4 [] [(20,Sep.v (⟨r1,1000⟩:Sep))] {} (TL.s 0 (Bk b1 (Sep.c (⟨r1,1000⟩:Sep)) 62) (fun _=>{}) (TL.nr (TL.r 1 [] [(21,.slice A_l l.length c_l)] {} (TL.cn (Γ:=AN) 22 (Yt l) (fun r2 g=>.slice g.1 r2.length g.2) (fun r2 g=>[Ow g.1 g.2 38 6 (r2.map Zf.c)]) (fun w hM=>Ud A_l c_l l w (h_l.sat hM) hc_l) {} (fun r2 hr2=>?_))))))))))))
 rintro⟨A,c⟩
 refine TL.know (fun w hM=>hM.short_at 0 rfl) (fun s_r2_0=>TL.r 3 [] [(9,.slice A r2.length c)] {} (TL.ns (TC.sr (TL.c 23 (XA) (fun r3=>.b r3) (fun w _=>UR w) {} (fun r3 hr3=>TL.r 2 [] [(24,.b (!r3))] {} (TL.next rfl (TC.cond (!r3) rfl Kr (fun h1=>?_) (fun h1=>?_))))))))
 ·exact TC.sr (TL.r 1 [] [(8,.b false)] {} (TL.next rfl (TC.ret (TE.rt (TE.ret [] (.b false) {} (by unfold YS;refine eS (fun z=>(.b z:Value)) ?_;subst hr1 hr2 hr3;exact Zj h1 (rfl)))))))
 ·refine TC.sn (TC.seq (TC.sr (TL.r 3 [] [(27,.b (decide ((r2.length:Int)<2)))] {} (TL.next rfl (TC.cond (decide ((r2.length:Int)<2)) rfl Kr (fun h2=>?_) (fun h2=>?_))))))
  ·exact TC.sr (TL.r 1 [] [(8,.b true)] {} (TL.next rfl (TC.ret (TE.rt (TE.ret [] (.b true) {} (by unfold YS;refine eS (fun z=>(.b z:Value)) ?_;subst hr1 hr2 hr3;exact Zb h1 (Zj h2 (rfl))))))))
  ·have q2_0:=(Zq h2)
   refine TC.snr (TL.r 1 [] [(28,.slice A r2.length c)] {} ?_)
   obtain⟨A1,hA1⟩:∃ A0_,A0_=(if c=0 then A else A.map (fun a=>a.add (0*6))):=⟨_,rfl⟩
   refine TL.v (sV (Instr.sliceAt 23 (.slice A r2.length c) none (some (.i 2)) none)) 29 (.slice A1 ((r2.take 2).length) (c-0)) (fun w hM=>(JE 0 2 Kr (.inl ⟨rfl,rfl⟩) (.inr ⟨_,_,rfl,sd,rfl⟩) sd (Nat.le_trans sd (hM.le_at 0 rfl))).trans (by rw[hA1];congr 3;first|(simp only[List.length_take] <;> omega)|(simp only[List.length_take] at * <;> omega))) {} (TL.r 3 [] [(9,.slice A1 ((r2.take 2).length) (c-0))] {} (TL.conv [Ow A c 38 6 ((r2.take 2).map Zf.c),Bk b1 (Sep.c (⟨r1,1000⟩:Sep)) 62] (fun _ hM=>by have h_:=hM.takerow 2 0 rfl (by simp only[List.length_map];exact sg);rw[← List.map_take] at h_;exact h_) (TL.rw 9 (.slice A1 ((r2.take 2).length) (c-0)) (.slice A ((r2.take 2).length) c) Kr (by rw[hA1,O4];rfl) (TL.ns (TC.drawTail 20 Kr Kr (TQ.r 2 [] [(30,.slice A ((r2.take 2).length) c),(31,.slice A ((r2.take 2).length) c)] {} (TQ.v (sV (Instr.indexAt 23 (.slice A ((r2.take 2).length) c) (.i 0))) 32 (.pointer (some (Ix A (0*6)))) (fun w hM=>Zp (hM.rd_at 0 rfl) (by simp) Kr sd sd) rfl {} (TQ.r 5 [] [(34,.pointer (some (Ix A (0*6))))] {} (TQ.v (sV (Instr.loadAt 3 (.pointer (some (Ix A (0*6)))))) 35 (.i ((((r2.take 2)[0]?.getD Zf.zero).at_).X)) (fun w hM=>Zs (off:=0) (i:=0) (.i ((((r2.take 2)[0]?.getD Zf.zero).at_).X)) (hM.rd_at 0 rfl) (Z8 (getD_at _ _ Zf.zero sd)) Kr Kr) rfl {} (TQ.r 7 [] [(36,.i x)] {} (TQ.c 37 (Z5 x (-15000) 15000) (fun r4=>.i r4) (fun w _=>Xp x (-15000) 15000 w (by first|omega|first|decide|omega|(simp only[Yi];omega)|(simp <;> omega))) rfl {} (fun r4 hr4=>?_))))))))))))
   have kb4_:=QV hr4 (by decide) (by decide) (by decide)
   refine TQ.r 10 [] [(38,.i (w64 (((((r2.take 2)[0]?.getD Zf.zero).at_).X)+r4))),(39,.slice A ((r2.take 2).length) c)] {} (TQ.v (sV (Instr.indexAt 23 (.slice A ((r2.take 2).length) c) (.i 0))) 40 (.pointer (some (Ix A (0*6)))) (fun w hM=>Zp (hM.rd_at 0 rfl) (by simp) Kr sd sd) rfl {} (TQ.r 13 [] [(42,.pointer (some ((Ix A (0*6)).add 1)))] {} (TQ.v (sV (Instr.loadAt 3 (.pointer (some ((Ix A (0*6)).add 1))))) 43 (.i ((((r2.take 2)[0]?.getD Zf.zero).at_).Y)) (fun w hM=>Zs (off:=1) (i:=0) (.i ((((r2.take 2)[0]?.getD Zf.zero).at_).Y)) (hM.rd_at 0 rfl) (Z8 (getD_at _ _ Zf.zero sd)) Kr Kr) rfl {} (TQ.r 15 [] [(44,.i y)] {} (TQ.c 45 (Z5 y (-15000) 15000) (fun r5=>.i r5) (fun w _=>Xp y (-15000) 15000 w (by first|omega|first|decide|omega|(simp only[Yi];omega)|(simp <;> omega))) rfl {} (fun r5 hr5=>?_))))))
   have kb5_:=QV hr5 (by decide) (by decide) (by decide)
   refine TQ.r 18 [] [(47,P.v (⟨w64 (((((r2.take 2)[0]?.getD Zf.zero).at_).X)+r4),w64 (((((r2.take 2)[0]?.getD Zf.zero).at_).Y)+r5)⟩:P))] {} (TQ.v (sV (Instr.indexAt 23 (.slice A ((r2.take 2).length) c) (.i 1))) 48 (.pointer (some (Ix A (1*6)))) (fun w hM=>Zp (hM.rd_at 0 rfl) (by simp) Kr sd sd) rfl {} (TQ.r 20 [] [(49,.pointer (some (Ix A (1*6))))] {} (TQ.tail rfl (TL.ks (Γ:=Unit) (sU (Instr.storeAt 36 (.pointer (some ((Ix A (1*6)).add 0))) (P.v (⟨w64 (((((r2.take 2)[0]?.getD Zf.zero).at_).X)+r4),w64 (((((r2.take 2)[0]?.getD Zf.zero).at_).Y)+r5)⟩:P)))) 0 (Ow A c 38 6 (((r2.take 2).set 1 (⟨⟨w64 (((((r2.take 2)[0]?.getD Zf.zero).at_).X)+r4),w64 (((((r2.take 2)[0]?.getD Zf.zero).at_).Y)+r5)⟩,(((r2.take 2)[1]?.getD Zf.zero).speed),((r2.take 2)[1]?.getD Zf.zero).height,((r2.take 2)[1]?.getD Zf.zero).code⟩:Zf)).map Zf.c)) (Yw (n:=2) (off:=0) (P.v (⟨w64 (((((r2.take 2)[0]?.getD Zf.zero).at_).X)+r4),w64 (((((r2.take 2)[0]?.getD Zf.zero).at_).Y)+r5)⟩:P)) 0 (((r2.take 2).set 1 (⟨⟨w64 (((((r2.take 2)[0]?.getD Zf.zero).at_).X)+r4),w64 (((((r2.take 2)[0]?.getD Zf.zero).at_).Y)+r5)⟩,(((r2.take 2)[1]?.getD Zf.zero).speed),((r2.take 2)[1]?.getD Zf.zero).height,((r2.take 2)[1]?.getD Zf.zero).code⟩:Zf)).map Zf.c) rfl (Z8 (getD_at _ _ Zf.zero sd)) Kr Kr Kr Kr (Xa Kr)) Kr (TL.rw 9 (.slice A ((r2.take 2).length) c) (.slice A (((r2.take 2).set 1 (⟨⟨w64 (((((r2.take 2)[0]?.getD Zf.zero).at_).X)+r4),w64 (((((r2.take 2)[0]?.getD Zf.zero).at_).Y)+r5)⟩,(((r2.take 2)[1]?.getD Zf.zero).speed),((r2.take 2)[1]?.getD Zf.zero).height,((r2.take 2)[1]?.getD Zf.zero).code⟩:Zf)).length) c) Kr (by simp only[List.length_set]) ?_)))))
   generalize hr6:((r2.take 2).set 1 (⟨⟨w64 (((((r2.take 2)[0]?.getD Zf.zero).at_).X)+r4),w64 (((((r2.take 2)[0]?.getD Zf.zero).at_).Y)+r5)⟩,(((r2.take 2)[1]?.getD Zf.zero).speed),((r2.take 2)[1]?.getD Zf.zero).height,((r2.take 2)[1]?.getD Zf.zero).code⟩:Zf))=r6
   have kl6_:r6.length=2:=by rw[← hr6,List.length_set,List.length_take];have q_:=of_decide_eq_false h2;omega
   refine TL.nr (TL.r 2 [] [(50,.slice A r6.length c),(51,.slice A r6.length c)] {} (TL.v (sV (Instr.indexAt 23 (.slice A r6.length c) (.i 0))) 52 (.pointer (some (Ix A (0*6)))) (fun w hM=>Zp (hM.rd_at 0 rfl) (by simp) Kr sd sd) {} (TL.r 4 [] [(53,.pointer (some ((Ix A (0*6)).add 4)))] {} (TL.v (sV (Instr.loadAt 3 (.pointer (some ((Ix A (0*6)).add 4))))) 54 (.i ((r6[0]?.getD Zf.zero).height)) (fun w hM=>Zs (off:=4) (i:=0) (.i ((r6[0]?.getD Zf.zero).height)) (hM.rd_at 0 rfl) (Z8 (getD_at _ _ Zf.zero sd)) Kr Kr) {} (TL.v (sV (Instr.indexAt 23 (.slice A r6.length c) (.i 1))) 55 (.pointer (some (Ix A (1*6)))) (fun w hM=>Zp (hM.rd_at 0 rfl) (by simp) Kr sd sd) {} (TL.r 7 [] [(56,.pointer (some ((Ix A (1*6)).add 4)))] {} (TL.ks (Γ:=Unit) (sU (Instr.storeAt 3 (.pointer (some ((Ix A (1*6)).add 4))) (.i ((r6[0]?.getD Zf.zero).height)))) 0 (Ow A c 38 6 ((r6.set 1 (⟨((r6[1]?.getD Zf.zero).at_),((r6[1]?.getD Zf.zero).speed),(r6[0]?.getD Zf.zero).height,(r6[1]?.getD Zf.zero).code⟩:Zf)).map Zf.c)) (Yw (n:=1) (off:=4) (.i ((r6[0]?.getD Zf.zero).height)) 0 ((r6.set 1 (⟨((r6[1]?.getD Zf.zero).at_),((r6[1]?.getD Zf.zero).speed),(r6[0]?.getD Zf.zero).height,(r6[1]?.getD Zf.zero).code⟩:Zf)).map Zf.c) rfl (Z8 (getD_at _ _ Zf.zero sd)) Kr Kr Kr Kr (Xa Kr)) Kr (TL.rw 9 (.slice A r6.length c) (.slice A ((r6.set 1 (⟨((r6[1]?.getD Zf.zero).at_),((r6[1]?.getD Zf.zero).speed),(r6[0]?.getD Zf.zero).height,(r6[1]?.getD Zf.zero).code⟩:Zf)).length) c) Kr (by simp only[List.length_set]) ?_))))))))
   generalize hr7:(r6.set 1 (⟨((r6[1]?.getD Zf.zero).at_),((r6[1]?.getD Zf.zero).speed),(r6[0]?.getD Zf.zero).height,(r6[1]?.getD Zf.zero).code⟩:Zf))=r7
   obtain⟨kf_,kg_,ke7_,kh7_,kf7_⟩:=NP hr2 (by have q_:=of_decide_eq_false h2;omega) kb4_ kb5_ hr6 hr7;have kl7_:r7.length=2:=by rw[ke7_];rfl
   refine TL.nr (TL.r 1 [] [(58,.slice A r7.length c)] {} (TL.cn (Γ:=Nat×AN) 59 (V2 r7 5) (fun r8 g=>.tuple #[.p0 g.1,.i r8.2.1,.b r8.2.2]) (fun r8 g=>[Bk g.1 (Ze.k r8.1 g.2.1 g.2.2) 118,Ow g.2.1 g.2.2 122 23 (r8.1.all.map followed.c)]) (fun w hM=>OU A c r7 5 w (Sat.start w) (hM.rd_at 0 rfl) (hM.le_at 0 rfl) (hT.sat hM) ⟨by rw[kl7_];decide,by decide,by decide⟩ (RY kf7_)) {} (fun r8 hr8=>?_)))
   have kr_:=Lr kf7_ hr8
   rintro⟨b_r8,A_2,c_2⟩
   refine TL.know (fun w hM=>hM.short_at 1 rfl) (fun s_r8_1=>TL.r 9 [] [(10,.p0 b_r8),(11,.i r8.2.1),(12,.b r8.2.2)] {} (TL.ns (TC.sr (TL.r 2 [] [(64,.b (!r8.2.2))] {} (TL.next rfl (TC.cond (!r8.2.2) rfl Kr (fun h3=>?_) (fun h3=>?_)))))))
   ·exact TC.sr (TL.r 1 [] [(8,.b false)] {} (TL.next rfl (TC.ret (TE.rt (TE.ret [] (.b false) {} (by unfold YS;refine eS (fun z=>(.b z:Value)) ?_;subst hr1 hr2 hr3 hr4 hr5 hr6 hr7 hr8;exact Zb h1 (Zb h2 (Zj h3 (rfl)))))))))
   ·refine TC.snr (TL.r 1 [] [(65,.p0 b_r8)] {} (TL.cn (Γ:=AN) 66 (YP r8.1) (fun r9 g=>.slice g.1 r9.length g.2) (fun r9 g=>[Ow g.1 g.2 44 20 (r9.map Za.c)]) (fun w hM=>Vp ⟨b_r8,0,none⟩ r8.1 A_2 c_2 w (Rd.lit hM 0 _ rfl Kr Kr Kr) (hM.rd_at 1 rfl) (hM.le_at 1 rfl) sg) {} (fun r9 hr9=>?_)))
    rintro⟨A_3,c_3⟩
    refine TL.know (fun w hM=>hM.short_at 0 rfl) (fun s_r9_0=>TL.r 3 [] [(13,.slice A_3 r9.length c_3)] {} (TL.ns (TC.sr (TL.r 3 [] [(69,.b ((r9.length:Int) != 2))] {} (TL.next rfl (TC.cond ((r9.length:Int) != 2) rfl Kr (fun h4=>?_) (fun h4=>?_)))))))
    ·exact TC.sr (TL.r 1 [] [(8,.b false)] {} (TL.next rfl (TC.ret (TE.rt (TE.ret [] (.b false) {} (by unfold YS;refine eS (fun z=>(.b z:Value)) ?_;subst hr1 hr2 hr3 hr4 hr5 hr6 hr7 hr8 hr9;exact Zb h1 (Zb h2 (Zb h3 (Zj h4 (rfl))))))))))
    ·have q4_0:=(QQ h4)
     refine TC.sn (TC.seq (TC.draw 13 Kr Kr Kr (TQ.r 1 [] [(71,.slice A_3 r9.length c_3)] {} (TQ.v (sV (Instr.indexAt 31 (.slice A_3 r9.length c_3) (.i 0))) 72 (.pointer (some (Ix A_3 (0*20)))) (fun w hM=>Zp (hM.rd_at 0 rfl) (by simp) Kr sd sd) rfl {} (TQ.v (sV (Instr.loadAt 44 (.pointer (some (Ix A_3 (0*20)))))) 73 (Za.v (r9[0]?.getD Za.zero)) (fun w hM=>Z6 (n:=20) (off:=0) (i:=0) (Za.v (r9[0]?.getD Za.zero)) (hM.rd_at 0 rfl) (Z8 (getD_at _ _ Za.zero sd)) Kr Kr Kr) rfl {} (TQ.r 4 [] [(74,.slice A_3 r9.length c_3)] {} (TQ.v (sV (Instr.indexAt 31 (.slice A_3 r9.length c_3) (.i 1))) 75 (.pointer (some (Ix A_3 (1*20)))) (fun w hM=>Zp (hM.rd_at 0 rfl) (by simp) Kr sd sd) rfl {} (TQ.v (sV (Instr.loadAt 44 (.pointer (some (Ix A_3 (1*20)))))) 76 (Za.v (r9[1]?.getD Za.zero)) (fun w hM=>Z6 (n:=20) (off:=0) (i:=1) (Za.v (r9[1]?.getD Za.zero)) (hM.rd_at 0 rfl) (Z8 (getD_at _ _ Za.zero sd)) Kr Kr Kr) rfl {} (TQ.r 7 [4] [(77,Sep.v (⟨r1,1000⟩:Sep))] {} (TQ.c 78 (Xf (r9[0]?.getD Za.zero) (r9[1]?.getD Za.zero) (⟨r1,1000⟩:Sep) 60 1 0) (fun r10=>.tuple #[.i r10.1,.i r10.2]) (fun w _=>HZ (r9[0]?.getD Za.zero) (r9[1]?.getD Za.zero) (⟨r1,1000⟩:Sep) 60 1 0 w) rfl {} (fun r10 hr10=>TQ.r 13 [] [(14,.i r10.1),(15,.i r10.2)] {} (TQ.next rfl (TC.seq (TC.sr (TL.r 1 [] [(16,.i 0)] {} (TL.next rfl ?_))))))))))))))))
     obtain⟨R1,hR⟩:∃ R,R=Xu r1 r7 r8 r10 61 0:=⟨_,rfl⟩
     refine TC.cut (S:=Unit) (fun (_:Unit)=>[(15,.i r10.2)]) (fun (_:Unit)=>[]) (fun (_:Unit)=>R1=.inl ()) ?_ ?_
     ·refine TC.block (TC.lw (X:=Nat) (fun k=>[(7,.p0 b1),(9,.slice A r7.length c),(11,.i r8.2.1),(14,.i r10.1),(15,.i r10.2),(16,.i (k:Int))]) (fun k=>[Ow A c 38 6 (r7.map Zf.c),Bk b1 (Sep.c (⟨r1,1000⟩:Sep)) 62]) (fun k=>61-k) (fun k=>k≤61∧R1=Xu r1 r7 r8 r10 (61-k) k) ?_ 0 ⟨Nat.zero_le _,hR⟩ Kr (sb 24))
      rintro k ⟨hk,hI⟩
      refine TC.seq (TC.sr (TL.r 2 [] [(82,.b (decide ((k:Int)≤60)))] {} (TL.next rfl (TC.cond (decide ((k:Int)≤60)) rfl Kr (fun h5=>?_) (fun h5=>?_)))))
      ·have hlt:k<61:=by have p0_:=(Z1 h5);first|omega|(simp only[Yi] at *;omega)
       have hd:61-k=(61-(k+1))+1:=by omega
       have q5_0:=(Z1 h5)
       refine TC.sn (TC.seq (TC.block (TC.seq (TC.draw 21 Kr Kr Kr (TQ.r 1 [] [(85,.slice A r7.length c)] {} (TQ.v (sV (Instr.indexAt 23 (.slice A r7.length c) (.i 0))) 86 (.pointer (some (Ix A (0*6)))) (fun w hM=>Zp (hM.rd_at 0 rfl) (by simp) Kr sd sd) rfl {} (TQ.v (sV (Instr.loadAt 38 (.pointer (some (Ix A (0*6)))))) 87 (Zf.v (r7[0]?.getD Zf.zero)) (fun w hM=>Z6 (n:=6) (off:=0) (i:=0) (Zf.v (r7[0]?.getD Zf.zero)) (hM.rd_at 0 rfl) (Z8 (getD_at _ _ Zf.zero sd)) Kr Kr Kr) rfl {} (TQ.r 6 [] [(90,.i (w64 (r8.2.1+(k:Int))))] {} (TQ.c 91 (ZU (r7[0]?.getD Zf.zero) (w64 (r8.2.1+(k:Int)))) (fun r11=>P.v r11) (fun w _=>Q6 (r7[0]?.getD Zf.zero) (w64 (r8.2.1+(k:Int))) w) rfl {} (fun r11 hr11=>TQ.r 8 [] [(92,.slice A r7.length c)] {} (TQ.v (sV (Instr.indexAt 23 (.slice A r7.length c) (.i 1))) 93 (.pointer (some (Ix A (1*6)))) (fun w hM=>Zp (hM.rd_at 0 rfl) (by simp) Kr sd sd) rfl {} (TQ.v (sV (Instr.loadAt 38 (.pointer (some (Ix A (1*6)))))) 94 (Zf.v (r7[1]?.getD Zf.zero)) (fun w hM=>Z6 (n:=6) (off:=0) (i:=1) (Zf.v (r7[1]?.getD Zf.zero)) (hM.rd_at 0 rfl) (Z8 (getD_at _ _ Zf.zero sd)) Kr Kr Kr) rfl {} (TQ.r 13 [] [(97,.i (w64 (r8.2.1+(k:Int))))] {} (TQ.c 98 (ZU (r7[1]?.getD Zf.zero) (w64 (r8.2.1+(k:Int)))) (fun r12=>P.v r12) (fun w _=>Q6 (r7[1]?.getD Zf.zero) (w64 (r8.2.1+(k:Int))) w) rfl {} (fun r12 hr12=>TQ.c 99 (Qf r11 r12) (fun r13=>.i r13) (fun w _=>U3 r11 r12 w) rfl {} (fun r13 hr13=>TQ.r 21 [1,1] [(105,.b (decide (r13<(w64 (r1*r1)))))] {} (TQ.next rfl (TC.cond (decide (r13<(w64 (r1*r1)))) rfl Kr (fun h6=>?_) (fun h6=>?_)))))))))))))))))))
       ·refine TC.sr (TL.r 3 [] [(108,.b (r10.2==0))] {} (TL.j 108 (r10.2==0) 7 [] [] (fun β=>[(112,.b (β&&(decide (r10.1≤(k:Int)))))]) Kr {} {} (TL.r 8 [] [(8,.b ((r10.2==0)&&(decide (r10.1≤(k:Int)))))] {} (TL.next rfl (TC.ret (TE.rb (TE.rt (TE.rt (TE.rb (TE.rt (TE.rt ?_)))))))))))
        exact TE.ret [] (.b ((r10.2==0)&&(decide (r10.1≤(k:Int))))) {} (by unfold YS;refine eS (fun z=>(.b z:Value)) ?_;subst hr1 hr2 hr3 hr4 hr5 hr6 hr7 hr8 hr9 hr10 hr11 hr12 hr13;exact Zb h1 (Zb h2 (Zb h3 (Zb h4 (X3 (hR.symm.trans (hI.trans (by rw[hd];exact Zj h6 (rfl)))) rfl)))))
       ·have q6_0:=(Zq h6)
        exact TC.skip (TE.nb (TE.next (TC.region (TL.r 3 [] [(16,.i (w64 ((k:Int)+1)))] {} (TL.done rfl (TE.rw 16 (.i (w64 ((k:Int)+1))) (.i ((k+1:Nat):Int)) Kr (int_eq (by first|omega|(rw[Zn (by omega)];omega)|(simp only[Yi] at *;omega))) (TE.again (x:=k) (k+1) ⟨by omega,hI.trans (by subst hr1 hr2 hr3 hr4 hr5 hr6 hr7 hr8 hr9 hr10 hr11 hr12 hr13;rw[hd];exact Zb h6 (rfl))⟩ (mN hlt) Kr (sb 3))))))))
      ·have hd:61-k=0:=by have p0_:=(Zq h5);first|omega|(simp only[Yi] at *;omega)
       refine TC.exit (TE.et (TE.et (TE.exit_same ?_)))
       exact TE.cut () (hI.trans (by subst hr1 hr2 hr3 hr4 hr5 hr6 hr7 hr8 hr9 hr10;rw[hd];exact rfl)) Kr (sb 0)
     ·intro _ hJ
      exact TE.nr (TL.r 3 [] [(115,.b (r10.2==0))] {} (TL.j 115 (r10.2==0) 6 [] [] (fun β=>[(118,.b (β||(r10.2==8)))]) Kr {} {} (TL.r 7 [] [(8,.b ((r10.2==0)||(r10.2==8)))] {} (TL.next rfl (TC.ret (TE.ret [] (.b ((r10.2==0)||(r10.2==8))) {} (by unfold YS;refine eS (fun z=>(.b z:Value)) ?_;subst hr1 hr2 hr3 hr4 hr5 hr6 hr7 hr8 hr9 hr10;exact Zb h1 (Zb h2 (Zb h3 (Zb h4 (Xk (hR.symm.trans hJ) (rfl))))))))))))
end Go.Sky
end
section
namespace Go.Sky
open Go Go.Eng
theorem NQ {lat:Int} (hlat:0≤lat∧lat≤10000) {f g:Zf} (hf:Q5 f) (hg:Q5 g) {r8:Ze×Int×Bool} (h8:r8.2.1=16) {r10:Int×Int} (hc:r10.2=0∨r10.2=8)
  (hit:∀ k:Nat,k≤60→((Yn f (16+k)).X-(Yn g (16+k)).X)*((Yn f (16+k)).X-(Yn g (16+k)).X)+((Yn f (16+k)).Y-(Yn g (16+k)).Y)*((Yn f (16+k)).Y-(Yn g (16+k)).Y)<lat*lat→r10.2=0∧r10.1≤(k:Int)) :
  ∀ (n k:Nat),k+n≤61→Sum.elim (fun _=>(r10.2==0)||(r10.2==8)) (fun r=>r) (Xu lat [f,g] r8 r10 n k)=true
 | 0,k,_=>by
  show ((r10.2==0)||(r10.2==8))=true
  rcases hc with h|h <;> rw[h] <;> rfl
 | n+1,k,h1=>by
  unfold Xu
  have mm:=JL (x:=lat) (n:=10000) (by omega)
  rw[h8,Zn (x:=16+(k:Int)) (by omega),show (16:Int)+(k:Int)=((16+k:Nat):Int) by omega,Zn (x:=lat*lat) (by omega)]
  dsimp only
  rw[show [f,g][0]?.getD Zf.zero=f from rfl,show [f,g][1]?.getD Zf.zero=g from rfl,GU hf (by omega),GU hg (by omega),Lp (G0 hf (by omega)) (G0 hg (by omega))]
  by_cases hh:((Yn f (16+k)).X-(Yn g (16+k)).X)*((Yn f (16+k)).X-(Yn g (16+k)).X)+((Yn f (16+k)).Y-(Yn g (16+k)).Y)*((Yn f (16+k)).Y-(Yn g (16+k)).Y)<lat*lat
  ·rw[decide_eq_true hh,cond_true]
   obtain⟨q1,q2⟩:=hit k (by omega) hh
   show ((r10.2==0)&&(decide (r10.1≤(k:Int))))=true
   rw[q1,decide_eq_true q2];rfl
  ·rw[decide_eq_false hh,cond_false]
   exact NQ hlat hf hg h8 hc hit n (k+1) (by omega)
theorem SI {α:Type} {l:List α} (h:l.length=2):∃ a b,l=[a,b]:=by
 match l,h with
 | [a,b],_=>exact⟨a,b,rfl⟩
theorem Bn (x0:List Int) (x1 x2:Int) (x3:Sep) (_s0:x0.length<4611686018427387904) (_k0:∀ a∈x0,Go.Glue.I64 a) (_k1:Go.Glue.I64 x1) (_k2:Go.Glue.I64 x2) (_k3:x3.ok):YS x0 x1 x2 x3=true:=by
 unfold YS
 dsimp only
 rw[MC,Bool.not_true,cond_false]
 generalize hr1:Z5 x3.Lateral 1000 9000=r1
 have b1:=QV hr1 (by decide) (by decide) (by decide)
 generalize hl:Yt x0=fs
 by_cases h2:(fs.length:Int)<2
 ·rw[decide_eq_true h2];rfl
 rw[decide_eq_false h2,cond_false]
 generalize hr4:Z5 x1 (-15000) 15000=r4
 generalize hr5:Z5 x2 (-15000) 15000=r5
 have b4:=QV hr4 (by decide) (by decide) (by decide)
 have b5:=QV hr5 (by decide) (by decide) (by decide)
 obtain⟨f,g,e,hh,hfl⟩:=NP hl (by omega) b4 b5 rfl rfl
 rw[e]
 rw[e] at hfl
 obtain⟨t,gs,ef,p,q,q2⟩:=SG hfl (n:=5) (by decide)
 rw[show V2 [f,g] 5=(t,((4*(5-1):Nat):Int),true) from ef]
 simp only[Bool.not_true,cond_false]
 rw[Rz,List.length_map,q.all.len,p.length_eq,show ((([f,g]:List Zf).length:Int) != 2)=false from rfl,cond_false]
 have hf:=hfl.fly f (List.mem_cons_self ..)
 have hg:=hfl.fly g (List.mem_cons_of_mem _ (List.mem_cons_self ..))
 obtain⟨x,y,ex⟩:=SI (show t.all.length=2 by rw[q.all.len,p.length_eq];rfl)
 have qa:JC (fun f x=>Has f x.f 16∧Lo x) gs t.all:=q.all
 rw[ex] at qa
 rw[ex,show ([x,y].map fun x=>x.f)[0]?.getD Za.zero=x.f from rfl,show ([x,y].map fun x=>x.f)[1]?.getD Za.zero=y.f from rfl]
 have fin:((Xf x.f y.f ⟨r1,1000⟩ 60 1 0).2=0∨(Xf x.f y.f ⟨r1,1000⟩ 60 1 0).2=8)∧∀ k:Nat,k≤60→((Yn f (16+k)).X-(Yn g (16+k)).X)*((Yn f (16+k)).X-(Yn g (16+k)).X)+((Yn f (16+k)).Y-(Yn g (16+k)).Y)*((Yn f (16+k)).Y-(Yn g (16+k)).Y)<r1*r1→(Xf x.f y.f ⟨r1,1000⟩ 60 1 0).2=0∧(Xf x.f y.f ⟨r1,1000⟩ 60 1 0).1≤(k:Int):=by
  obtain⟨a,b,eg⟩:=SI (show gs.length=2 from p.length_eq)
  subst eg
  cases qa with
  | cons h1 qb =>
  cases qb with
  | cons h2 _ =>
   have ma:=p.mem_iff.1 (List.mem_cons_self (a:=a) (l:=[b]))
   have mb:=p.mem_iff.1 (List.mem_cons_of_mem a (List.mem_cons_self (a:=b) (l:=[])))
   have hne:a≠b:=fun e=>by
    have c:=(hfl.perm p).code
    subst e
    simp at c
   rcases List.mem_cons.1 ma with rfl|ma
   ·rcases List.mem_cons.1 mb with rfl|mb
    ·exact absurd rfl hne
    ·rw[List.mem_singleton.1 mb] at h2
     exact NN hf hg hh h1.1 h2.1 (by decide) (by omega)
   ·rw[List.mem_singleton.1 ma] at h1
    rcases List.mem_cons.1 mb with rfl|mb
    ·have r:=NN hg hf hh.symm h1.1 h2.1 (lat:=r1) (by decide) (by omega)
     refine⟨r.1,fun k hk hn=>r.2 k hk ?_⟩
     have e1:∀ u v:Int,(u-v)*(u-v)=(v-u)*(v-u):=fun u v=>by grind
     rw[e1 (Yn g (16+k)).X,e1 (Yn g (16+k)).Y]
     exact hn
    ·rw[List.mem_singleton.1 ma,List.mem_singleton.1 mb] at hne
     exact absurd rfl hne
 exact NQ ⟨by omega,by omega⟩ hf hg rfl fin.1 fin.2 61 0 (by decide)
end Go.Sky
end
section
namespace Go.Glue
open Go.ChangeShapes Go.WideShapes Go.ChangeAt Go.RowKit Go.Eng
theorem SJ {H:Type} {enc:TypeId×Value→H} {P:Program} {w:World} {base:Nat} {sp:Nat→Bool} {held:Bool} {fuel:Nat} {t:TypeId} {cs:List Value} {x:DataW H×List MemPlace}
  (ht:P.underlying t=some (.float .f64)) (h:DataW.trod enc P w base sp held fuel t cs=some x):∃ n,cs=[.float .f64 n]∧x=(.lit (.float .f64 n),[]):=by
 cases fuel with
 | zero=>simp[DataW.trod] at h
 | succ n =>
  unfold DataW.trod at h
  rw[ht] at h
  split at h <;> simp_all
theorem Cc {H:Type} {enc:TypeId×Value→H} {P:Program} {w:World} {base:Nat} {sp:Nat→Bool} {held:Bool} {fuel:Nat} {t e:TypeId} {n:Nat} {cs:List Value} {zs:List Nat} {p:List MemPlace}
  (ht:P.underlying t=some (.array n e)) (he:P.underlying e=some (.float .f64)) (hce:P.cellsOf e=1) (hct:P.cellsOf t=n)
  (h:DataW.trod enc P w base sp held fuel t cs=some (.agg (zs.map fun z=>(DataW.lit (.float .f64 z):DataW H)),p)):∀ (i:Nat) (z:Nat),zs[i]?=some z→cs[i]?=some (Value.float .f64 z):=by
 cases fuel with
 | zero=>simp[DataW.trod] at h
 | succ fuel =>
  simp only[DataW.trod,ht,hce,hct,Nat.mul_one] at h
  split at h
  ·obtain⟨xs,hm,hx⟩:=Option.map_eq_some_iff.1 h
   intro i z hz
   have e1:xs.map (·.1)=zs.map fun z=>(DataW.lit (.float .f64 z):DataW H):=by simpa using congrArg Prod.fst hx
   have hl:=Lib.mapM_length hm
   rw[List.length_range] at hl
   have l2:xs.length=zs.length:=by simpa using congrArg List.length e1
   have hi:i<n:=by have:=(List.getElem?_eq_some_iff.1 hz).1;omega
   obtain⟨b,hb,hf⟩:=Lib.mapM_at hm i i (by simp[hi])
   obtain⟨y,hc,rfl⟩:=SJ he hf
   have h1:cs[i]?=some (Value.float .f64 y):=by
    have h:=congrArg (fun l=>l[0]?) hc
    rw[List.getElem?_take_of_lt (by decide),List.getElem?_drop,Nat.add_zero] at h
    exact h
   have h2:(xs.map (·.1))[i]?=some (DataW.lit (.float .f64 y):DataW H):=by simp[hb]
   rw[e1] at h2
   simp[hz] at h2
   rw[h1,h2]
  ·cases h
theorem SK {P:Program} {W:World} {name:String} {zs:List Nat} {g:Nat} {t e:TypeId} {n:Nat} (hg:P.globalNamed name=some g) (hty:(P.globals[g]?).map (·.type)=some t) (ht:P.underlying t=some (.array n e)) (he:P.underlying e=some (.float .f64)) (hce:P.cellsOf e=1) (hct:P.cellsOf t=n)
  (h:∃ (g':Nat) (t':TypeId) (cs:Array Value) (fuel:Nat) (p:List MemPlace),P.globalNamed name=some g'∧(P.globals[g']?).map (·.type)=some t'∧W.var? P name=some cs∧DataW.trod (H:=Unit) (fun _=>()) P W 0 (fun _=>true) false fuel t' cs.toList=some (.agg (zs.map fun z=>(DataW.lit (.float .f64 z):DataW Unit)),p))
  (h0:0<zs.length):ML W g zs:=by
 obtain⟨g',t',cs,fuel,p,hg',ht',hvar,hd⟩:=h
 obtain rfl:=Option.some.inj (hg.symm.trans hg')
 obtain rfl:=Option.some.inj (hty.symm.trans ht')
 have hc:=Cc ht he hce hct hd
 have cell:∀ (i z:Nat),zs[i]?=some z→W.cell? ⟨g,i,none⟩=some (.float .f64 z):=fun i z hz=>by
  have a:=World.var?_cell hg hvar i
  have b:=hc i z hz
  rw[Array.getElem?_toList] at b
  rw[a,b]
 refine⟨?_,cell⟩
 have:=cell 0 (zs[0]'h0) (List.getElem?_eq_getElem h0)
 unfold World.cell? at this
 cases hb:W.heap[(⟨g,0,none⟩:Addr).block]? with
 | none=>rw[hb] at this;cases this
 | some o=>exact(Array.getElem?_eq_some_iff.1 hb).1
section
variable {H:Type} {enc:TypeId×Value→H}
theorem ET {C:Checked} {os:Os} {f:FuncId} {fn:Func} {s:ChangeSpec} {tb:TypeId} {L:List (String×DataW Unit)} (hX:∀ w w':World,w.heap=w'.heap→laidMetH C.prog L w→laidMetH C.prog L w') (own:ownKnob C.prog.godebug=none) (started:os.Started) (noInit:C.prog.inits.idxOf? f=none) (hfn:C.prog.funcs[f]?=some fn)
  (hl:laidOutB C.prog=true) (hread:fn.params.toList.all (fun t=>C.prog.readableRec t&&decide (t<C.prog.types.size))=true) (hv:s.vars=[]) (hres:fn.resultTypes=#[tb]) (htb:C.prog.underlying tb=some .bool)
  (hs:∀ ds:List (DataW H),ds.length=fn.params.size→s.fn H ds={ results:=[.lit (.bool true)],args:=ds })
  (witness:∃ (w:World) (tape:Tape) (i:Input),w.os=os∧(w.forCall tape i).Shaped C.prog∧i.vars=[]∧Input.okWide C.prog (w.forCall tape i) .any w.heap.size f i ∧
   ((s.pre enc C.prog fn [] false (w.forCall tape i).memory i.args∧laidMetH C.prog L (w.forCall tape i).memory)∧sizedMet enc C.prog fn (OpenSpec.ofChange s) false (w.forCall tape i).memory i.args)∧({}:Assume).holds C.prog (lone (Frame.enter C.prog f i.args .normal) [] (w.forCall tape i)))
  (law:∀ (W:World) (base:Nat) (args:Array Value) (ds:List (DataW H)) (p:List MemPlace),(∀ (j:Nat) t v,fn.params[j]?=some t→args[j]?=some v→Value.okWide C.prog W .any base t v) →
   DataW.TrodAll enc C.prog W 0 (fun _=>true) true fn.params.toList args.toList ds p→(∀ (j:Nat) (t:TypeId) (d:DataW H),fn.params.toList[j]?=some t→ds[j]?=some d→∀ n∈d.weights C.prog t,n≤reachBytes) →
   laidMetH C.prog L W→Calls C.prog f args W (Ret W (.bool true))) :
  ReturnsInHanded {} C os f .any (fun w args=>(s.pre enc C.prog fn [] false w args∧laidMetH C.prog L w)∧sizedMet enc C.prog fn (OpenSpec.ofChange s) false w args) (s.post enc C.prog fn false true false false):=by
 refine returnsInHanded_of_change_and (X:=fun w _=>laidMetH C.prog L w) (fun w w' _ hh h=>hX w w' hh h) own started noInit hfn witness ?_
 intro W base args ds gs before hval hW _ hsz hL _
 have hW':=hW
 obtain⟨p,q,hA,hV,rfl,hfz,hnd⟩:=hW
 rw[hv] at hV
 obtain⟨rfl,rfl⟩:=trodVars_none hV
 have hlen:ds.length=fn.params.size:=by
  have:=Wm hA
  simpa using this
 have hlt:∀ x∈p,x.block<W.heap.size:=fun x hx=>hW'.lt x (List.mem_append_left _ hx)
 refine(law W base args ds p hval hA (fun j t d ht hd n hn=>?_) hL).mono fun e W' ⟨he,hb⟩=>?_
 ·have h1:n∈DataW.weightsEach C.prog (fn.params.toList++s.plain.varTypes C.prog) (ds ++ []) :=
   DataW.weights_mem_each (j:=j) (by rw[List.getElem?_append_left (by exact(List.getElem?_eq_some_iff.1 ht).1)];exact ht) (by simpa using hd) n hn
  exact of_decide_eq_true (List.all_eq_true.1 hsz n h1)
 ·refine⟨_,he,HY (pa:=p) (pv:=[]) hW' (fun b sp hd=>?_) (fun sp hsp=>?_) (fun sp _=>?_) rfl hb.kit ?_⟩
  ·rw[hres,List.append_nil,hs ds hlen];exact trodAll_mk1 (shut_bool htb true)
  ·rw[List.append_nil,hs ds hlen];exact B0 hl hb.kit hread hA hlt (fun x hx=>hsp x (List.mem_append_left _ hx))
  ·rw[hv,List.append_nil,hs ds hlen];rfl
  ·exact ok_one hres rfl (okWide_bool_mk htb true)
end
end Go.Glue
end
section
namespace Go.Proofs.YtjggkpkehdnhiaaGreatDoor.topAlertRow
open Go.ChangeShapes Go.WideShapes Go.ChangeAt Go.RowKit Go.Glue Go.Eng Go.Sky
theorem opens62:WX Tryz.prog 62 Sep.c Sep.ok:=by
 intro H enc W base sp hd fuel cs x h
 obtain⟨xs,n,rfl,rfl,hlen,hxs,hf⟩:=DataW.trod_struct Tryz.underlying62 h
 obtain⟨y0,h0⟩:=FC hxs hf 0 _ rfl
 obtain⟨a0,e0,k0⟩:=(GN Tryz.underlying3) h0
 obtain⟨y1,h1⟩:=FC hxs hf 1 _ rfl
 obtain⟨a1,e1,k1⟩:=(GN Tryz.underlying3) h1
 have hend:cs.drop 2=[]:=List.drop_eq_nil_of_le (by rw[hlen,show Tryz.prog.cellsOf 62=2 by kernel_rfl];exact Nat.le_refl _)
 exact⟨⟨a0,a1⟩,(Ed (o:=0) (n:=1) (by kernel_rfl) e0 (Ed (o:=1) (n:=1) (by kernel_rfl) e1 hend)),k0,k1⟩
theorem own_:ownKnob Tryz.prog.godebug=none:=by kernel_rfl
theorem tabs_of {W:World} (h:laidMetH Tryz.prog Rows.topAlertRow.laid W):Uh W:=by
 rw[MakeChecks.laidMetH_plain _ _ _ (by kernel_rfl)] at h
 obtain⟨ps,⟨g0,t0,cs0,f0,p0,q0,hg0,ht0,hv0,hd0,⟨g1,t1,cs1,f1,p1,q1,hg1,ht1,hv1,hd1,⟨g2,t2,cs2,f2,p2,q2,hg2,ht2,hv2,hd2,_,_⟩,_⟩,_⟩,_,_⟩:=h
 exact⟨SK (zs:=Ei) (by kernel_rfl:Tryz.prog.globalNamed "math._cos"=some 1) (by kernel_rfl) Tryz.underlying286 Tryz.underlying215 (by kernel_rfl) (by kernel_rfl) ⟨g1,t1,cs1,f1,p1,hg1,ht1,hv1,hd1⟩ (by decide),SK (zs:=Eh) (by kernel_rfl:Tryz.prog.globalNamed "math._sin"=some 2) (by kernel_rfl) Tryz.underlying286 Tryz.underlying215 (by kernel_rfl) (by kernel_rfl) ⟨g0,t0,cs0,f0,p0,hg0,ht0,hv0,hd0⟩ (by decide)⟩
theorem door_met (os:Os) (args:Array Value):laidMetH Tryz.prog Rows.topAlertRow.laid ((World.doorLaid Tryz.prog 400 os).forCall (fun _ _=>0) ⟨#[],args,[]⟩).memory :=
 laidMetH_of_parts3 (fuel:=8) (laidMet_of_run' 8 (by kernel_rfl) (by kernel_rfl)) (by kernel_rfl) (by kernel_rfl)
set_option maxRecDepth 100000 in
theorem lifted (os:Os) (started:os.Started) (H:Type) (enc:TypeId×Value→H) :
  ReturnsInHanded {} Tryz.checked os 5 .any (fun w args=>(Rows.topAlertSpec.pre enc Tryz.prog Tryz.f5 [] false w args∧laidMetH Tryz.prog Rows.topAlertRow.laid w)∧sizedMet enc Tryz.prog Tryz.f5 (OpenSpec.ofChange Rows.topAlertSpec) false w args) (Rows.topAlertSpec.post enc Tryz.prog Tryz.f5 false true false false):=by
 refine ET (C:=Tryz.checked) (L:=Rows.topAlertRow.laid) (tb:=4) (fun _ _ hh h=>h.of_heap hh) own_ started (by kernel_rfl) Tryz.func5 (by kernel_rfl) (by kernel_rfl) rfl (by kernel_rfl) Tryz.underlying4 (fun ds h=>by match ds,h with | [_,_,_,_],_=>rfl)
  (ChangeSpec.witness_shaped (enc:=enc) (C:=Tryz.checked) (os:=os) (X:=fun w _=>laidMetH Tryz.prog Rows.topAlertRow.laid w) false (World.doorLaid Tryz.prog 400 os) #[.slice none 0 0,.int .i64 0,.int .i64 0,(Sep.v Sep.zero)] 8 rfl (World.shaped_of_RefB (by kernel_rfl) (by kernel_rfl)) (by kernel_rfl) (by kernel_rfl) (by kernel_rfl) (door_met os _)) ?_
 intro W base args ds p hval0 hA0 hw0 hL
 have hval:∀ (j:Nat) t v,Tryz.f5.params[j]?=some t→args[j]?=some v→Value.okWide Tryz.prog W .any base t v:=hval0
 have hA:DataW.TrodAll enc Tryz.prog W 0 (fun _=>true) true Tryz.f5.params.toList args.toList ds p:=hA0
 have hw:∀ (j:Nat) (t:TypeId) (d:DataW H),Tryz.f5.params.toList[j]?=some t→ds[j]?=some d→∀ n∈d.weights Tryz.prog t,n≤reachBytes:=hw0
 clear hval0 hA0 hw0
 rw[Tryz.params5] at hA hval hw
 obtain⟨v0,vs0,d0,ds0,p0,q0,hargs,rfl,rfl,h0,s0⟩:=trodAll_cons hA
 obtain⟨v1,vs1,d1,ds1,p1,q1,rfl,rfl,rfl,h1,s1⟩:=trodAll_cons s0
 obtain⟨v2,vs2,d2,ds2,p2,q2,rfl,rfl,rfl,h2,s2⟩:=trodAll_cons s1
 obtain⟨v3,vs3,d3,ds3,p3,q3,rfl,rfl,rfl,h3,s3⟩:=trodAll_cons s2
 obtain⟨rfl,rfl,rfl⟩:=trodAll_nil s3
 obtain rfl:args=#[v0,v1,v2,v3]:=by cases args;simp_all
 obtain⟨A0,c0,x0,rfl,r0_,l0_,k0⟩:=Ri (GN Tryz.underlying3) Tryz.underlying22 (by kernel_rfl:Tryz.prog.cellsOf 3=1) (by decide) rfl (Nat.le_of_ble_eq_true (by kernel_rfl)) (hval 0 22 v0 rfl rfl) h0 (hw 0 _ _ rfl rfl)
 obtain⟨x1,rfl,k1⟩:=LA Tryz.underlying3 (hval 1 3 v1 rfl rfl) h1
 obtain⟨x2,rfl,k2⟩:=LA Tryz.underlying3 (hval 2 3 v2 rfl rfl) h2
 obtain⟨x3,rfl,k3⟩:=NV opens62 Tryz.underlying62 (hval 3 62 v3 rfl rfl) h3
 have e:=Bn x0 x1 x2 x3 (by have:=r0_.short;rw[List.length_map] at this;exact this) k0 k1 k2 k3
 have r:=Uk A0 c0 x0 x1 x2 x3 W r0_ l0_ (tabs_of hL)
 rw[e] at r
 exact r
end Go.Proofs.YtjggkpkehdnhiaaGreatDoor.topAlertRow
namespace Go.Proofs.YtjggkpkehdnhiaaGreatDoor
theorem topAlert_holds:Rows.TopAlertSaid :=
 OpenClaim.holds_of_wide 5 Tryz.f5 rfl rfl rfl rfl rfl rfl rfl ⟨rfl,rfl,rfl,rfl,rfl⟩ rfl rfl rfl rfl rfl (by kernel_rfl) Tryz.func5 (by kernel_rfl)
  (of_decide_eq_true (by kernel_rfl)) (by unfold Func.isWrapper;rw[if_neg (of_decide_eq_false (by kernel_rfl))];exact⟨rfl,rfl⟩)
  (fun os started H enc _=>topAlertRow.lifted os started H enc)
theorem topAlert_card:Rows.TopAlertCardSaid :=
 Claim7.holds_tied_plain_at .later [] [.data,.data,.data] true (true, "74d98562085f6681f41be128b2f0adf57d437f7a8ab0c20d8d444da80047e06a") false
  topAlert_holds (fun _ h=>by cases h) (by kernel_rfl) (fun _ h=>by cases h) topAlert_row_tie rfl ⟨rfl,rfl⟩ (by kernel_rfl) rfl
  (fun f fn hf hfn=>by
   obtain rfl:f=5:=Option.some.inj ((show Tryz.prog.funcNamed "skyway/skywaytop.TopAlert"=some 5 by kernel_rfl).symm.trans hf) |>.symm
   obtain rfl:fn=Tryz.f5:=(Option.some.inj (Tryz.func5.symm.trans hfn)).symm
   exact⟨by kernel_rfl,fun j t ht=>by
    rw[Tryz.params5] at ht
    rcases j with _|j
    ·have h3:t=22:=by simpa using ht.symm
     subst h3
     exact(show Tryz.prog.wantsStandIn 22=false by kernel_rfl)
    rcases j with _|j
    ·have h3:t=3:=by simpa using ht.symm
     subst h3
     exact(show Tryz.prog.wantsStandIn 3=false by kernel_rfl)
    rcases j with _|j
    ·have h3:t=3:=by simpa using ht.symm
     subst h3
     exact(show Tryz.prog.wantsStandIn 3=false by kernel_rfl)
    rcases j with _|j
    ·have h3:t=62:=by simpa using ht.symm
     subst h3
     exact(show Tryz.prog.wantsStandIn 62=false by kernel_rfl)
    simp at ht⟩)
  (by kernel_rfl)
end Go.Proofs.YtjggkpkehdnhiaaGreatDoor
end
