/- Proves the given statement of this seat that YtjggkpkehdnhiaaGreatDoorRowTopLostPlots names, from the texts before it; no condition is added. -/
import Derived.Test.YtjggkpkehdnhiaaGreatDoorBl19
import Derived.Test.YtjggkpkehdnhiaaGreatDoorBl11
import Derived.Test.YtjggkpkehdnhiaaGreatDoorBl02
import Derived.Test.YtjggkpkehdnhiaaGreatDoorBl12
import Derived.Lib.LaidTab
import Derived.LaidMore
import Derived.LaidLaws
import Derived.MakeChecks
import Derived.LaidHandle
import Derived.OpenShut
import Derived.Test.YtjggkpkehdnhiaaGreatDoorRows
import Derived.Test.YtjggkpkehdnhiaaGreatDoorTie
import Derived.Test.YtjggkpkehdnhiaaGreatDoorCards
section
namespace Go.Sky
open Go Go.Eng Go.Proofs
def X5 (time:Int) (x:Zh):List Zm→Nat→(List Zl)→((List Zl) ⊕ ((List Zf)×Bool))
 | [],_,feed=>.inl feed
 | x_2::xs,k_2,feed=>let r1:=ZU x_2 time
  let r2:=Z4 x (⟨time,r1,x_2.height,x_2.code,0⟩:Zf)
  cond (r2.2 != 0) (
   .inr ([],false)) (
   X5 time x xs (k_2+1) (feed++([r2.1])))
def X6 (l:List Zm) (time:Int):List Zh→Nat→(List (List Zl))→((List (List Zl)) ⊕ ((List Zf)×Bool))
 | [],_,feeds=>.inl feeds
 | x::xs,k,feeds=>Sum.elim (fun feed_2 =>
   X6 l time xs (k+1) (feeds ++ [feed_2])) (fun r=>.inr r) (X5 time x l 0 ([]:List Zl))
def Z1 (sites:List Zh) (l:List Zm) (time:Int):List Zf×Bool :=
 Sum.elim (fun feeds_2 =>
  let r3:=Y8 feeds_2
  cond (r3.2 != 0) (
   ([],false)) (
   let r4:=Xl sites r3.1
   (r4.1,r4.2==0))) (fun r=>r) (X6 l time sites 0 ([]:List (List Zl)))
set_option maxHeartbeats 4000000 in
set_option maxRecDepth 100000 in
theorem Vl (A_sites:Option Addr) (c_sites:Nat) (sites:List Zh) (A_l:Option Addr) (c_l:Nat) (l:List Zm) (time:Int) (w:World) (h_sites:Rd w 6 A_sites (sites.map Zh.c)) (hc_sites:sites.length≤c_sites) (h_l:Rd w 6 A_l (l.map Zm.c)) (_hc_l:l.length≤c_l) (hT:Uo w) (hn:sites.length≤4∧l.length≤4):Calls Tryz.prog 21 #[.slice A_sites sites.length c_sites,.slice A_l l.length c_l,.int .i64 time] w (QQ (Γ:=(Option Addr×Nat)) (cx w) (fun g=>.tuple #[.slice g.1 ((Z1 sites l time).1.length) g.2,.bool ((Z1 sites l time).2)]) (fun g=>[.inr (Own g.1 g.2 42 6 (((Z1 sites l time).1).map Zf.c))])):=by
 have s_sites:=h_sites.short;rw[List.length_map] at s_sites
 have s_l:=h_l.short;rw[List.length_map] at s_l
 refine Zj (vs:=[.slice A_sites sites.length c_sites,.slice A_l l.length c_l,.i time]) (w:=w) Tryz.func21 rfl Tryz.ntmps21 rfl (TC.sr (TL.r 2 [] [(6,.slice none 0 0),(7,.b false)] {} (TL.nr (TL.r 1 [] [(8,.slice none 0 0)] {} (TL.ns (TC.sr (TL.r 3 [] [(19,.slice A_sites sites.length c_sites),(20,.i (sites.length:Int)),(21,.i 0)] {} (TL.next rfl (TC.conv [Ow none 0 83 1 (([]:List (Sl Zl)).map Sl.c),.inr (Bag 89 6 Zl.c ([]:List (Sl Zl)))] (fun _ hM=>(hM.bag_nil 89 6 Zl.c).emptyrow none 83 1) ?_)))))))))
 obtain⟨R2,hR⟩:∃ R,R=X6 l time sites 0 ([]:List (List Zl)):=⟨_,rfl⟩
 refine TC.cut (S:=(List (List Zl))×(Option Addr)×Nat×(List (Sl Zl))) (fun (feeds_2,A_feeds_2,c_feeds_2,o_feeds_2)=>[(0,.slice A_sites sites.length c_sites),(8,.slice A_feeds_2 feeds_2.length c_feeds_2)]) (fun (feeds_2,A_feeds_2,c_feeds_2,o_feeds_2)=>[Ow A_feeds_2 c_feeds_2 83 1 (o_feeds_2.map Sl.c),.inr (Bag 89 6 Zl.c o_feeds_2)]) (fun (feeds_2,A_feeds_2,c_feeds_2,o_feeds_2)=>R2=.inl feeds_2∧feeds_2.length≤sites.length∧(feeds_2=o_feeds_2.map Sl.l)) ?_ ?_
 ·refine TC.block (TC.lw (X:=Nat×(List (List Zl))×(Option Addr)×Nat×(List (Sl Zl))) (fun (k,feeds,A_feeds,c_feeds,o_feeds)=>[(0,.slice A_sites sites.length c_sites),(1,.slice A_l l.length c_l),(2,.i time),(8,.slice A_feeds feeds.length c_feeds),(19,.slice A_sites sites.length c_sites),(20,.i (sites.length:Int)),(21,.i (k:Int))]) (fun (k,feeds,A_feeds,c_feeds,o_feeds)=>[Ow A_feeds c_feeds 83 1 (o_feeds.map Sl.c),.inr (Bag 89 6 Zl.c o_feeds)]) (fun (k,feeds,A_feeds,c_feeds,o_feeds)=>sites.length-k) (fun (k,feeds,A_feeds,c_feeds,o_feeds)=>k≤sites.length∧R2=X6 l time (sites.drop k) k feeds∧feeds.length≤k∧(feeds=o_feeds.map Sl.l)) ?_ (0,([]:List (List Zl)),none,0,([]:List (Sl Zl))) ⟨Nat.zero_le _,hR,sz,rfl⟩ Kr (sb 3))
  rintro⟨k,feeds,A_feeds,c_feeds,o_feeds⟩ ⟨hk,hI,hl_feeds,hl_he_feeds⟩
  refine TC.sr (TL.r 1 [] [(22,.b (decide ((k:Int)<(sites.length:Int))))] {} (TL.ns (TC.cond (decide ((k:Int)<(sites.length:Int))) rfl Kr (fun h1=>?_) (fun h1=>?_))))
  ·have hlt:=ltN h1
   obtain⟨x,hx⟩:=elN hlt
   have hd:=drop_at hx
   refine TC.sn (TC.seq (TC.block (TC.sr (TL.v (sV (Instr.indexAt 55 (.slice A_sites sites.length c_sites) (.i (k:Int)))) 23 (.pointer (some (Ix A_sites (k*6)))) (fun w hM=>Zr (h_sites.sat hM) (by simp) Kr sd sd) {} (TL.v (sV (Instr.loadAt 85 (.pointer (some (Ix A_sites (k*6)))))) 24 (Zh.v x) (fun w hM=>Z7 (n:=6) (off:=0) (i:=k) (Zh.v x) (h_sites.sat hM) (ZA hx) Kr Kr Kr) {} (TL.nw 10 (fun b1=>.p0 b1) (fun b1=>Bk b1 (Zh.c Zh.zero) 85) (fun b1=>{}) (fun b1=>TL.s 0 (Bk b1 (Zh.c x) 85) (fun _=>{}) (TL.nr (TL.r 1 [] [(11,.slice none 0 0)] {} (TL.ns (TC.sr (TL.r 3 [] [(25,.slice A_l l.length c_l),(26,.i (l.length:Int)),(27,.i 0)] {} (TL.next rfl (TC.conv [Ow none 0 89 6 (([]:List Zl).map Zl.c),Bk b1 (Zh.c x) 85,Ow A_feeds c_feeds 83 1 (o_feeds.map Sl.c),.inr (Bag 89 6 Zl.c o_feeds)] (fun _ hM=>hM.emptyrow none 89 6) ?_))))))))))))))
   obtain⟨R4,hR_2⟩:∃ R,R=X5 time x l 0 ([]:List Zl):=⟨_,rfl⟩
   refine TC.cut (S:=(List Zl)×(Option Addr)×Nat) (fun (feed_2,A_feed_2,c_feed_2)=>[(0,.slice A_sites sites.length c_sites),(1,.slice A_l l.length c_l),(2,.i time),(8,.slice A_feeds feeds.length c_feeds),(11,.slice A_feed_2 feed_2.length c_feed_2),(19,.slice A_sites sites.length c_sites),(20,.i (sites.length:Int)),(21,.i (k:Int))]) (fun (feed_2,A_feed_2,c_feed_2)=>[Ow A_feed_2 c_feed_2 89 6 (feed_2.map Zl.c),Ow A_feeds c_feeds 83 1 (o_feeds.map Sl.c),.inr (Bag 89 6 Zl.c o_feeds)]) (fun (feed_2,A_feed_2,c_feed_2)=>R4=.inl feed_2∧feed_2.length≤l.length) ?_ ?_
   ·refine TC.block (TC.lw (X:=Nat×(List Zl)×(Option Addr)×Nat) (fun (k_2,feed,A_feed,c_feed)=>[(0,.slice A_sites sites.length c_sites),(1,.slice A_l l.length c_l),(2,.i time),(8,.slice A_feeds feeds.length c_feeds),(10,.p0 b1),(11,.slice A_feed feed.length c_feed),(19,.slice A_sites sites.length c_sites),(20,.i (sites.length:Int)),(21,.i (k:Int)),(25,.slice A_l l.length c_l),(26,.i (l.length:Int)),(27,.i (k_2:Int))]) (fun (k_2,feed,A_feed,c_feed)=>[Ow A_feed c_feed 89 6 (feed.map Zl.c),Bk b1 (Zh.c x) 85,Ow A_feeds c_feeds 83 1 (o_feeds.map Sl.c),.inr (Bag 89 6 Zl.c o_feeds)]) (fun (k_2,feed,A_feed,c_feed)=>l.length-k_2) (fun (k_2,feed,A_feed,c_feed)=>k_2≤l.length∧R4=X5 time x (l.drop k_2) k_2 feed∧feed.length≤k_2) ?_ (0,([]:List Zl),none,0) ⟨Nat.zero_le _,hR_2,sz⟩ Kr (sb 15))
    rintro⟨k_2,feed,A_feed,c_feed⟩ ⟨hk_2,hI_2,hl_feed⟩
    refine TC.sr (TL.r 1 [] [(28,.b (decide ((k_2:Int)<(l.length:Int))))] {} (TL.ns (TC.cond (decide ((k_2:Int)<(l.length:Int))) rfl Kr (fun h2=>?_) (fun h2=>?_))))
    ·have hlt_2:=ltN h2
     obtain⟨x_2,hx_2⟩:=elN hlt_2
     have hd_2:=drop_at hx_2
     refine TC.sn (TC.seq (TC.block (TC.sr (TL.v (sV (Instr.indexAt 23 (.slice A_l l.length c_l) (.i (k_2:Int)))) 29 (.pointer (some (Ix A_l (k_2*6)))) (fun w hM=>Zr (h_l.sat hM) (by simp) Kr sd sd) {} (TL.v (sV (Instr.loadAt 38 (.pointer (some (Ix A_l (k_2*6)))))) 30 (Zm.v x_2) (fun w hM=>Z7 (n:=6) (off:=0) (i:=k_2) (Zm.v x_2) (h_l.sat hM) (ZA hx_2) Kr Kr Kr) {} (TL.nw 13 (fun b2=>.p0 b2) (fun b2=>Bk b2 (Zm.c Zm.zero) 38) (fun b2=>{}) (fun b2=>TL.s 0 (Bk b2 (Zm.c x_2) 38) (fun _=>{}) (TL.ns ?_))))))))
     obtain⟨r1,hr1⟩:∃ r,ZU x_2 time=r:=⟨_,rfl⟩
     obtain⟨r2,hr2⟩:∃ r,Z4 x (⟨time,r1,x_2.height,x_2.code,0⟩:Zf)=r:=⟨_,rfl⟩
     let Mr9_:Mem:=[Bk b2 (Zm.c x_2) 38,Ow A_feed c_feed 89 6 (feed.map Zl.c),Bk b1 (Zh.c x) 85,Ow A_feeds c_feeds 83 1 (o_feeds.map Sl.c),.inr (Bag 89 6 Zl.c o_feeds)]
     refine TC.plan (G:=Nat) (base:=[(0,.slice A_sites sites.length c_sites),(1,.slice A_l l.length c_l),(2,.i time),(8,.slice A_feeds feeds.length c_feeds),(10,.p0 b1),(11,.slice A_feed feed.length c_feed),(13,.p0 b2),(19,.slice A_sites sites.length c_sites),(20,.i (sites.length:Int)),(21,.i (k:Int)),(25,.slice A_l l.length c_l),(26,.i (l.length:Int)),(27,.i (k_2:Int))]) (vals:=fun γ=>[Zh.v x,.i time,Zm.v x_2,.i time,P.v r1,.pt b2 4,.i x_2.height,.pt b2 5,.i x_2.code,Zf.v (⟨time,r1,x_2.height,x_2.code,0⟩:Zf),.tuple #[Zl.v r2.1,.i r2.2],.tuple #[Zl.v r2.1,.i r2.2],Zl.v r2.1,.i r2.2,.p0 γ,undef,.i r2.2]) (writes:=[14,15]) (mem:=fun bs γ=>match bs with | [x14_,x15_]=>(bif x15_ then [Bk γ (Zl.c r2.1) 89] else bif x14_ then [Bk γ (Zl.c Zl.zero) 89] else [])++(Mr9_)|_=>[]) (0) (fun γ=>[(0,.slice A_sites sites.length c_sites),(1,.slice A_l l.length c_l),(2,.i time),(8,.slice A_feeds feeds.length c_feeds),(10,.p0 b1),(11,.slice A_feed feed.length c_feed),(14,.p0 γ),(15,.i r2.2),(19,.slice A_sites sites.length c_sites),(20,.i (sites.length:Int)),(21,.i (k:Int)),(25,.slice A_l l.length c_l),(26,.i (l.length:Int)),(27,.i (k_2:Int))]) Kr Kr Kr Kr Kr (fun γ=>Kr) (fun _ hM=>hM) (fun γ=>Kr) ?_ ?_
     ·skip
      exact Steps.run (i:=0) 4 [2,0,0,0] Mr9_ Kr Kr (fun S (γ:Nat) w hM=>by rw[mS2 rfl rfl] at hM;exact hM.sub (Zk (List.Sublist.refl _))) Kr (fun (γ:Nat)=>{}) (Steps.call (i:=4) 16 (fun (γ:Nat)=>#[Zm.v x_2,.i time]) (some 36) (fun (γ:Nat)=>P.v r1) (fun (γ:Nat)=>[Bk b2 (Zm.c x_2) 38,Ow A_feed c_feed 89 6 (feed.map Zl.c),Bk b1 (Zh.c x) 85,Ow A_feeds c_feeds 83 1 (o_feeds.map Sl.c),.inr (Bag 89 6 Zl.c o_feeds)]) Kr (fun S (γ:Nat) w _ hM=>by rw[mS2 rfl rfl] at hM;exact hM.sub (Zk (List.Sublist.refl _))) (fun (γ:Nat) w _=>by have h:=Jy x_2 time w;rw[hr1] at h;exact h) (fun (γ:Nat)=>Kr) (fun (γ:Nat)=>Kr) (Steps.run (i:=5) 10 [0,0,0,0,0] Mr9_ Kr Kr (fun S (γ:Nat) w hM=>by rw[mS2 rfl rfl] at hM;exact hM.sub (Zk (List.Sublist.refl _))) Kr (fun (γ:Nat)=>{}) (Steps.call (i:=10) 32 (fun (γ:Nat)=>#[Zh.v x,Zf.v (⟨time,r1,x_2.height,x_2.code,0⟩:Zf)]) (some 42) (fun (γ:Nat)=>.tuple #[Zl.v r2.1,.i r2.2]) (fun (γ:Nat)=>[Bk b2 (Zm.c x_2) 38,Ow A_feed c_feed 89 6 (feed.map Zl.c),Bk b1 (Zh.c x) 85,Ow A_feeds c_feeds 83 1 (o_feeds.map Sl.c),.inr (Bag 89 6 Zl.c o_feeds)]) Kr (fun S (γ:Nat) w _ hM=>by rw[mS2 rfl rfl] at hM;exact hM.sub (Zk (List.Sublist.refl _))) (fun (γ:Nat) w hM=>by have h:=DY x (⟨time,r1,x_2.height,x_2.code,0⟩:Zf) w (hT.sat hM);rw[hr2] at h;exact h) (fun (γ:Nat)=>Kr) (fun (γ:Nat)=>Kr) (Steps.run (i:=11) 14 [0,0,0] Mr9_ Kr Kr (fun S (γ:Nat) w hM=>by rw[mS2 rfl rfl] at hM;exact hM.sub (Zk (List.Sublist.refl _))) Kr (fun (γ:Nat)=>{}) (Steps.op (i:=14) (Γ:=Nat) (fun g (γ:Nat)=>g) (fun _=>[]) (fun b (γ:Nat)=>[Bk b (Zl.c Zl.zero) 89]) (fun S (γ:Nat)=>Mr9_) [14,15,16] (fun (γ:Nat)=>sV (Instr.alloc 89 true (.tuple #[]))) (some 14) (fun b (γ:Nat)=>.p0 b) (fun S (γ:Nat) hj hd hl=>by rw[mS2 hj (hl 15 Kr)];exact List.Perm.refl _) (fun S (γ:Nat) g hl=>by rw[mS2 (S:=upS S 14) (a0:=14) (a1:=15) rfl (hl 15 Kr)];exact(List.Perm.refl _).symm) (fun (γ:Nat) M' w hM=>Q2 (v:=fun b=>.p0 b) (fun b M=>Kr) M' w hM) (fun (γ:Nat)=>Kr) (fun (γ:Nat) g=>Kr) Kr (fun (γ:Nat) g=>Kr) (Steps.put (i:=15) (fun (γ:Nat)=>[Bk γ (Zl.c Zl.zero) 89]) (fun (γ:Nat)=>[Bk γ (Zl.c r2.1) 89]) (fun S (γ:Nat)=>Mr9_) (fun (γ:Nat)=>sU (Instr.storeAt 89 (.p0 γ) (Zl.v r2.1))) none (fun S (γ:Nat) hj hd hl=>by rw[mS2 (hd 14 Kr) hj];exact List.Perm.refl _) (fun S (γ:Nat) _=>(List.Perm.refl _).symm) (fun (γ:Nat) M' w hM=>QV (fun b M=>Kr) (fun b M=>Kr) M' w hM) (fun (γ:Nat)=>Kr) (fun (γ:Nat)=>Kr) (Steps.run (i:=16) 17 [0] Mr9_ Kr Kr (fun S (γ:Nat) w hM=>by rw[mS2 rfl rfl] at hM;exact hM.sub (Zk (List.Sublist.refl _))) Kr (fun (γ:Nat)=>{}) (Steps.done Kr))))))))
     ·rintro b3
      refine TE.conv [Bk b3 (Zl.c r2.1) 89,Bk b2 (Zm.c x_2) 38,Ow A_feed c_feed 89 6 (feed.map Zl.c),Bk b1 (Zh.c x) 85,Ow A_feeds c_feeds 83 1 (o_feeds.map Sl.c),.inr (Bag 89 6 Zl.c o_feeds)] (fun _ hM=>hM) (TE.next (TC.seq (TC.sr (TL.r 2 [] [(46,.b (r2.2 != 0))] {} (TL.next rfl (TC.cond (r2.2 != 0) rfl Kr (fun h3=>?_) (fun h3=>?_)))))))
      ·refine TC.sr (TL.r 2 [] [(6,.slice none 0 0),(7,.b false)] {} (TL.next rfl (TC.ret (TE.rt (TE.rb (TE.rt (TE.rt (TE.rb (TE.rt (TE.rt (TE.rb (TE.rt (TE.rt (TE.rb (TE.rt (TE.rt ?_))))))))))))))))
       have e:Z1 sites l time=([],false):=by subst hr1 hr2;unfold Z1;exact X2 (hR.symm.trans (hI.trans (by rw[hd];exact X2 (hR_2.symm.trans (hI_2.trans (by rw[hd_2];exact Zi h3 (rfl)))) rfl))) rfl
       refine TE.conv [Ow none 0 42 6 (([]:List Zf).map Zf.c),Bk b3 (Zl.c r2.1) 89,Bk b2 (Zm.c x_2) 38,Ow A_feed c_feed 89 6 (feed.map Zl.c),Bk b1 (Zh.c x) 85,Ow A_feeds c_feeds 83 1 (o_feeds.map Sl.c),.inr (Bag 89 6 Zl.c o_feeds)] (fun _ hM=>hM.emptyrow none 42 6) ?_
       rw[e]
       exact TE.retM (.inl rfl) (none,0) [] (.tuple #[.slice none 0 0,.b false]) {} rfl (fun _ hM=>hM.sub (sb 1))
      ·have q3_0:=(Ql h3)
       refine TC.sn (TC.region (TL.r 2 [0] [(47,.slice A_feed feed.length c_feed),(48,Zl.v r2.1)] {} (TL.nw 49 (fun b4=>.slice (Pa b4) 1 1) (fun b4=>Bk b4 (Zl.c r2.1) 89) (fun b4=>{}) (fun b4=>TL.os (Γ:=AN) (sV (Builtin.append_ #[83,83] 83 #[.slice A_feed feed.length c_feed,.slice (Pa b4) 1 1])) 50 (fun g=>.slice g.1 (feed++([r2.1])).length g.2) 3 (fun g=>Ow g.1 g.2 89 6 ((feed++([r2.1])).map Zl.c)) (Qw (bytes:=48) 83 3 ([r2.1]) Kr rfl rfl Zl.one rfl (fun w hM=>(Rd.lit hM 0 _ rfl Kr Kr Kr)) rfl sa) {} ?_))))
       rintro⟨A,c⟩
       exact TL.r 5 [] [(11,.slice A ((feed++([r2.1])).length) c)] {} (TL.done rfl (TE.nb (TE.next (TC.region (TL.r 2 [] [(27,.i (w64 ((k_2:Int)+1)))] {} (TL.done rfl (TE.rw 27 (.i (w64 ((k_2:Int)+1))) (.i ((k_2+1:Nat):Int)) Kr (ZD k_2 (by omega)) (TE.again (x:=(k_2,feed,A_feed,c_feed)) (k_2+1,(feed++([r2.1])),A,c) ⟨by omega,hI_2.trans (by subst hr1 hr2;rw[hd_2];exact Zb h3 (rfl)),sl⟩ (mN hlt_2) Kr (sb 120)))))))))
    ·have hd_2:=XO h2
     refine TC.exit (TE.et (TE.et (TE.exit_same ?_)))
     exact TE.cut (feed,A_feed,c_feed) (⟨hI_2.trans (by rw[hd_2];exact rfl),sl⟩) Kr (sb 13)
   ·rintro⟨feed_2,A_feed_2,c_feed_2⟩ ⟨hJ_2,hl_feed_2⟩
    refine TE.next (TC.region (TL.r 2 [] [(52,.slice A_feeds feeds.length c_feeds),(53,.slice A_feed_2 feed_2.length c_feed_2)] {} (TL.nw 54 (fun b5=>.slice (Pa b5) 1 1) (fun b5=>Bk b5 #[.slice A_feed_2 feed_2.length c_feed_2] 83) (fun b5=>{}) (fun b5=>TL.rw 52 (.slice A_feeds feeds.length c_feeds) (.slice A_feeds o_feeds.length c_feeds) Kr (by rw[JZ hl_he_feeds]) (TL.opM (Γ:=AN) (sV (Builtin.append_ #[128,128] 128 #[.slice A_feeds o_feeds.length c_feeds,.slice (Pa b5) 1 1])) (some 55) (fun g=>.slice g.1 (o_feeds ++ [(⟨A_feed_2,c_feed_2,feed_2⟩:Sl Zl)]).length g.2) (fun g=>[Bk b5 #[.slice A_feed_2 feed_2.length c_feed_2] 83,Ow A_feed_2 c_feed_2 89 6 (feed_2.map Zl.c),Ow g.1 g.2 83 1 ((o_feeds ++ [(⟨A_feed_2,c_feed_2,feed_2⟩:Sl Zl)]).map Sl.c),.inr (Bag 89 6 Zl.c o_feeds)]) (fun g=>[(0,.slice A_sites sites.length c_sites),(1,.slice A_l l.length c_l),(2,.i time),(19,.slice A_sites sites.length c_sites),(20,.i (sites.length:Int)),(21,.i (k:Int)),(55,.slice g.1 ((o_feeds ++ [(⟨A_feed_2,c_feed_2,feed_2⟩:Sl Zl)]).length) g.2)]) (Qw (bytes:=24) 128 2 [(⟨A_feed_2,c_feed_2,feed_2⟩:Sl Zl)] Kr rfl rfl Sl.one rfl (fun w hM=>(Rd.lit hM 0 _ rfl Kr Kr Kr)) rfl (by have hz_:=JZ hl_he_feeds;rw[← hz_];exact sa)) Kr (fun g=>Kr) ?_)))))
    rintro⟨A_2,c_2⟩
    exact TL.rw 55 (.slice A_2 ((o_feeds ++ [(⟨A_feed_2,c_feed_2,feed_2⟩:Sl Zl)]).length) c_2) (.slice A_2 ((feeds ++ [feed_2]).length) c_2) Kr (by rw[← JZ (Da (s:=(⟨A_feed_2,c_feed_2,feed_2⟩:Sl Zl)) hl_he_feeds)]) (TL.conv [.inr (Bag 89 6 Zl.c (o_feeds ++ [(⟨A_feed_2,c_feed_2,feed_2⟩:Sl Zl)])),Bk b5 #[.slice A_feed_2 feed_2.length c_feed_2] 83,Ow A_2 c_2 83 1 ((o_feeds ++ [(⟨A_feed_2,c_feed_2,feed_2⟩:Sl Zl)]).map Sl.c)] (fun _ hM=>Sat.bag_add (hM.perm (((List.Perm.cons _ (List.Perm.refl _)).trans (List.Perm.swap _ _ _)).trans (List.Perm.cons _ (((List.Perm.cons _ ((List.Perm.cons _ (List.Perm.refl _)).trans (List.Perm.swap _ _ _))).trans (List.Perm.swap _ _ _)).trans (List.Perm.cons _ (List.Perm.refl _))))))) (TL.conv [Ow A_2 c_2 83 1 ((o_feeds ++ [(⟨A_feed_2,c_feed_2,feed_2⟩:Sl Zl)]).map Sl.c),.inr (Bag 89 6 Zl.c (o_feeds ++ [(⟨A_feed_2,c_feed_2,feed_2⟩:Sl Zl)])),Bk b5 #[.slice A_feed_2 feed_2.length c_feed_2] 83] (fun _ hM=>hM.perm (px [2,0,1])) (TL.r 5 [] [(8,.slice A_2 ((feeds ++ [feed_2]).length) c_2)] {} (TL.done rfl (TE.nb (TE.next (TC.region (TL.r 2 [] [(21,.i (w64 ((k:Int)+1)))] {} (TL.done rfl (TE.rw 21 (.i (w64 ((k:Int)+1))) (.i ((k+1:Nat):Int)) Kr (ZD k (by omega)) (TE.again (x:=(k,feeds,A_feeds,c_feeds,o_feeds)) (k+1,(feeds ++ [feed_2]),A_2,c_2,(o_feeds ++ [(⟨A_feed_2,c_feed_2,feed_2⟩:Sl Zl)])) ⟨by omega,hI.trans (by rw[hd];exact XE (hR_2.symm.trans hJ_2) (rfl)),sl,(Da (s:=(⟨A_feed_2,c_feed_2,feed_2⟩:Sl Zl)) hl_he_feeds)⟩ (mN hlt) Kr (sb 3))))))))))))
  ·have hd:=XO h1
   refine TC.exit (TE.et (TE.et (TE.exit_same ?_)))
   exact TE.cut (feeds,A_feeds,c_feeds,o_feeds) (⟨hI.trans (by rw[hd];exact rfl),sl,hl_he_feeds⟩) Kr (sb 3)
 ·rintro⟨feeds_2,A_feeds_2,c_feeds_2,o_feeds_2⟩ ⟨hJ,hl_feeds_2,hl_he_feeds_2⟩
  refine TE.nr (TL.r 1 [] [(58,.slice A_feeds_2 feeds_2.length c_feeds_2)] {} (TL.cn (Γ:=AN) 59 (Y8 feeds_2) (fun r3 g=>.tuple #[.slice g.1 r3.1.length g.2,.i r3.2]) (fun r3 g=>[Ow g.1 g.2 89 6 (r3.1.map Zl.c)]) (fun w hM=>HQ A_feeds_2 c_feeds_2 feeds_2 o_feeds_2 w (hM.rd_at 0 rfl) (C3 hl_he_feeds_2 (hM.le_at 0 rfl)) (hM.bag_at 1 rfl) hl_he_feeds_2) {} (fun r3 hr3=>?_)))
  rintro⟨A_3,c_3⟩
  refine TL.know (fun w hM=>hM.short_at 0 rfl) (fun s_r3_0=>TL.r 7 [] [(16,.slice A_3 r3.1.length c_3),(17,.i r3.2)] {} (TL.ns (TC.sr (TL.r 2 [] [(63,.b (r3.2 != 0))] {} (TL.next rfl (TC.cond (r3.2 != 0) rfl Kr (fun h4=>?_) (fun h4=>?_)))))))
  ·refine TC.sr (TL.r 2 [] [(6,.slice none 0 0),(7,.b false)] {} (TL.next rfl (TC.ret (TE.rt ?_))))
   have e:Z1 sites l time=([],false):=by subst hr3;unfold Z1;exact XE (hR.symm.trans hJ) (Zi h4 (rfl))
   refine TE.conv [Ow none 0 42 6 (([]:List Zf).map Zf.c),Ow A_3 c_3 89 6 (r3.1.map Zl.c),Ow A_feeds_2 c_feeds_2 83 1 (o_feeds_2.map Sl.c),.inr (Bag 89 6 Zl.c o_feeds_2)] (fun _ hM=>hM.emptyrow none 42 6) ?_
   rw[e]
   exact TE.retM (.inl rfl) (none,0) [] (.tuple #[.slice none 0 0,.b false]) {} rfl (fun _ hM=>hM.sub (sb 1))
  ·refine TC.snr (TL.r 2 [] [(65,.slice A_sites sites.length c_sites),(66,.slice A_3 r3.1.length c_3)] {} (TL.cn (Γ:=AN) 67 (Xl sites r3.1) (fun r4 g=>.tuple #[.slice g.1 r4.1.length g.2,.i r4.2]) (fun r4 g=>[Ow g.1 g.2 42 6 (r4.1.map Zf.c)]) (fun w hM=>HN A_sites c_sites sites A_3 c_3 r3.1 w (h_sites.sat hM) hc_sites (hM.rd_at 0 rfl) (hM.le_at 0 rfl) (hT.sat hM)) {} (fun r4 hr4=>?_)))
   rintro⟨A_4,c_4⟩
   refine TL.know (fun w hM=>hM.short_at 0 rfl) (fun s_r4_0=>TL.r 8 [] [(17,.i r4.2),(18,.slice A_4 r4.1.length c_4)] {} (TL.nr (TL.r 5 [] [(6,.slice A_4 r4.1.length c_4),(7,.b (r4.2==0))] {} (TL.next rfl (TC.ret ?_)))))
   have e:Z1 sites l time=(r4.1,r4.2==0):=by subst hr3 hr4;unfold Z1;exact XE (hR.symm.trans hJ) (Zb h4 (rfl))
   rw[e]
   exact TE.retM (.inl rfl) (A_4,c_4) [] (.tuple #[.slice A_4 r4.1.length c_4,.b (r4.2==0)]) {} rfl (fun _ hM=>hM.sub (sb 1))
end Go.Sky
end
section
namespace Go.Sky
open Go Go.Eng Go.Glue Go.Srt
def JL:Zh:=⟨2,⟨30000,40000⟩,400000,80,3⟩
structure Site (s:Zh):Prop where
 chk:Yd s=0
 x:-20000≤s.At.X∧s.At.X≤30000
 y:0≤s.At.Y∧s.At.Y≤40000
 reach:s.Reach=400000
 rerr:s.RangeError≤80
 aerr:s.AzimuthError≤3
theorem GE:Site JC:=⟨by kernel_rfl,by decide,by decide,rfl,by decide,by decide⟩
theorem HS:Site JL:=⟨by kernel_rfl,by decide,by decide,rfl,by decide,by decide⟩
theorem V3 {s:Zh} (hs:Site s) {f:Zm} (h:QS f) {t:Int} (ht:0≤t∧t≤200):(Z4 s (QI f t)).2=0:=by
 have p:=Uj h ht
 have hx:=hs.x;have hy:=hs.y
 refine RH hs.chk (MQ h ht) ?_
 unfold QI
 simp only
 rw[p.1,hs.reach]
 exact MR (X:=130000) (Y:=120000) (by unfold PIn;omega) (by unfold PIn;simp only;omega) (by decide) (by simp only;omega) (by simp only;omega) (by decide)
theorem Fo {s:Zh} (hs:Site s) {f:Zm} (h:QS f) {T:Nat} (hT:T≤200) :
  (ZH s (Z4 s (QI f (T:Int))).1).2=0∧VE (ZH s (Z4 s (QI f (T:Int))).1).1 (T:Int) f.height f.code (Jn f T):=by
 have ht:0≤(T:Int)∧(T:Int)≤200:=by omega
 have hp:=V3 hs h ht
 have hk:=UW hp
 have hra:=HL hp
 have haz:=VO hp
 have hpo:=Kw hp
 have pl:=Uj h ht
 have hsx:=hs.x;have hsy:=hs.y
 have pi:PIn (QI f (T:Int)).At:=by unfold QI PIn;simp only;rw[pl.1];simp only;omega
 have si:PIn s.At:=by unfold PIn;omega
 have q:=U3 si pi
 have a:=Us (x:=s.At.X-(QI f (T:Int)).At.X) (n:=125000) (by unfold QI;simp only;rw[pl.1];simp only;omega)
 have b:=Us (x:=s.At.Y-(QI f (T:Int)).At.Y) (n:=115000) (by unfold QI;simp only;rw[pl.1];simp only;omega)
 have hrange:(Z4 s (QI f (T:Int))).1.Range≤175000:=by
  rw[hpo.2.2.2.2]
  have r:=Fh (n:=ZV s.At (QI f (T:Int)).At) (by rw[q.1];exact⟨by omega,q.2⟩)
  simp only
  rcases Int.lt_or_le 175000 (XB (ZV s.At (QI f (T:Int)).At)) with g|g
  ·exfalso
   have:=Int.mul_le_mul (Int.le_of_lt g) (Int.le_of_lt g) (by decide) r.1
   rw[q.1] at r this
   omega
  ·exact g
 have hx:=RI (s:=s) (p:=(Z4 s (QI f (T:Int))).1) hs.chk hk.1 hk.2 ⟨hra.1,by omega⟩ haz (by omega) (by omega)
 have hh:=MS hp hx
 obtain⟨_,_,_,vx,vy,_,_,_,xi,xe,_,xt,xh,xc⟩:=WM hx
 have e0:=OJ hx
 have re:=hs.rerr;have ae:=hs.aerr;have ae0:=hpo.2.1.aerr
 have m:(Z4 s (QI f (T:Int))).1.Range*s.AzimuthError≤175000*3:=Int.mul_le_mul hrange ae (by omega) (by decide)
 refine⟨hx,?_,?_,?_,?_,?_⟩
 ·rw[xt,hpo.2.2.2.2];rfl
 ·rw[xh,hpo.2.2.2.2];rfl
 ·rw[xc,hpo.2.2.2.2];rfl
 ·refine⟨e0.1,?_⟩
  rw[xe]
  omega
 ·have wy:(QI f (T:Int)).At=Jn f T:=B7 h hT
  rw[Ff xi pi,wy] at hh
  exact⟨e0.1,hh⟩
def MW (fs:List Zm) (T:Int) (p:Zl) (s:Zh) (f:Zm):Prop:=(s=JC∨s=JL)∧f∈fs∧p=(Z4 s (QI f T)).1
theorem WN {s:Zh} (h:s=JC∨s=JL):Site s:=by
 rcases h with rfl|rfl
 ·exact GE
 ·exact HS
theorem S1 {p:Zl} {s:Zh} (h:s.ID≠p.Radar) (xs:List Zh) (k:Nat) (out:List Zf):Y6 p (s::xs) k out=Y6 p xs (k+1) out:=by
 rw[Y6,show (s.ID != p.Radar)=true by simpa using h,cond_true]
theorem LK {p:Zl} {s:Zh} (h:p.Radar=s.ID) (h0:(ZH s p).2=0) (xs:List Zh) (k:Nat) (out:List Zf):Y6 p (s::xs) k out=Y6 p xs (k+1) (out ++ [(ZH s p).1]):=by
 rw[Y6,show (s.ID != p.Radar)=false by simp[h],cond_false]
 simp only
 rw[h0]
 rfl
theorem RL {p:Zl} {s:Zh} (hs:s=JC∨s=JL) (hr:p.Radar=s.ID) (h0:(ZH s p).2=0) (out:List Zf):Y6 p [JC,JL] 0 out=out ++ [(ZH s p).1]:=by
 rcases hs with rfl|rfl
 ·rw[LK hr h0,S1 (by rw[hr];decide)]
  rfl
 ·rw[S1 (by rw[hr];decide),LK hr h0]
  rfl
theorem BK {fs:List Zm} (hf:∀ f∈fs,QS f) {T:Nat} (hT:T≤200):∀ (pl:List Zl) (k:Nat) (out:List Zf),(∀ p∈pl,∃ s f,MW fs (T:Int) p s f) →
  ∃ ys,Qh [JC,JL] pl k out=out++ys∧J1 (fun p y=>∃ s f,MW fs (T:Int) p s f∧y=(ZH s p).1) pl ys
 | [],k,out,_=>⟨[],by unfold Qh;simp,.nil⟩
 | p::pl,k,out,h=>by
  obtain⟨s,f,hs,hff,hp⟩:=h p (List.mem_cons_self ..)
  have ho:=WN hs
  have hk:=UW (V3 ho (hf f hff) (t:=(T:Int)) (by omega))
  have hx:=(Fo ho (hf f hff) hT).1
  rw[← hp] at hk hx
  obtain⟨ys,e,q⟩:=BK hf hT pl (k+1) (out ++ [(ZH s p).1]) fun p hp=>h p (List.mem_cons_of_mem _ hp)
  refine⟨_::ys,?_,.cons ⟨s,f,⟨hs,hff,hp⟩,rfl⟩ q⟩
  unfold Qh Y1
  simp only
  rw[RL hs hk.2 hx,e,List.append_assoc]
  rfl
theorem BL:∀ (xs:List Zl) (k:Nat),(∀ p∈xs,ZM p=0)→XC xs k=.inl ()
 | [],k,_=>rfl
 | x::xs,k,h=>by
  rw[XC]
  try simp only
  rw[h x List.mem_cons_self]
  simp only[bne_self_eq_false,cond_false]
  exact BL xs (k+1) fun p hp=>h p (List.mem_cons_of_mem _ hp)
theorem HT {T:Type} (q:T→T→Bool):∀ (l:List T) (p:T),(GA q p l).Sublist l
 | [],_=>.slnil
 | b::l,p=>by
  rw[GA]
  split
  ·exact(HT q l b).cons b
  ·exact(HT q l b).cons_cons b
theorem NB {T:Type} {q:T→T→Bool} (hq:∀ a b,q a b=true→a=b) {x:T}:∀ (l:List T) (p:T),x∈l→x=p∨x∈GA q p l
 | b::l,p,h=>by
  have hb:x=b→x=p∨x∈GA q p (b::l):=by
   rintro rfl
   rw[GA]
   split
   ·rename_i g;exact .inl (hq _ _ g)
   ·exact .inr (List.mem_cons_self ..)
  rcases List.mem_cons.1 h with h|h
  ·exact hb h
  ·rcases NB hq l b h with h|h
   ·exact hb h
   ·right
    rw[GA]
    split
    ·exact h
    ·exact List.mem_cons_of_mem _ h
theorem PS {T:Type} (q:T→T→Bool) (l:List T):(cpt q l).Sublist l:=by
 cases l with
 | nil=>exact .slnil
 | cons a l=>exact(HT q l a).cons_cons a
theorem PT {T:Type} {q:T→T→Bool} (hq:∀ a b,q a b=true→a=b) {x:T} {l:List T} (h:x∈l):x∈cpt q l:=by
 cases l with
 | nil=>exact h
 | cons a l =>
  rcases List.mem_cons.1 h with rfl|h
  ·exact List.mem_cons_self ..
  ·rcases NB hq l a h with h|h
   ·rw[h];exact List.mem_cons_self ..
   ·exact List.mem_cons_of_mem _ h
theorem S3 (a b:Zl) (h:Zl.eqb a b=true):a=b:=by
 rw[Zl.eqb_eq] at h
 exact of_decide_eq_true h
def XK (s:Zh) (fs:List Zm) (T:Int):List Zl:=fs.map fun f=>(Z4 s (QI f T)).1
theorem NC {fs:List Zm} (hf:∀ f∈fs,QS f) {T:Nat} (hT:T≤200) {s:Zh} (hs:Site s) {p:Zl} (hp:p∈XK s fs (T:Int)):ZM p=0∧p.Time=(T:Int):=by
 obtain⟨f,h,rfl⟩:=List.mem_map.1 hp
 have h0:=V3 hs (hf f h) (t:=(T:Int)) (by omega)
 exact⟨(UW h0).1,by rw[(Kw h0).2.2.2.2];rfl⟩
theorem HU {x:List Zl} {T:Int} (hx:∀ p∈x,ZM p=0∧p.Time=T):∀ (xs:List Zl) (k:Nat),k+xs.length=x.length→(∀ p∈xs,p∈x)→Qi x xs k=.inl ()
 | [],_,_,_=>rfl
 | p::xs,k,hl,h=>by
  rw[List.length_cons] at hl
  have hp:=hx p (h p (List.mem_cons_self ..))
  have ih:=HU hx xs (k+1) (by omega) fun p hp=>h p (List.mem_cons_of_mem _ hp)
  unfold Qi
  simp only
  rw[hp.1,show ((0:Int) != 0)=false from rfl,cond_false]
  have e:k-1<x.length:=by omega
  have ht:(x[k-1]?.getD Zl.zero).Time=T:=by
   rw[List.getElem?_eq_getElem e]
   exact(hx _ (List.getElem_mem e)).2
  rw[ht,hp.2,decide_eq_false (Int.lt_irrefl T),cond_false,ih]
  cases decide ((k:Int)>0) <;> rfl
theorem S4 {a b:List Zl} {T:Int} (ha:∀ p∈a,ZM p=0∧p.Time=T) (hb:∀ p∈b,ZM p=0∧p.Time=T) (la:a.length≤256) (lb:b.length≤256):Y8 [a,b]=(cpt Zl.eqb (UI (a++b)),0):=by
 unfold Y8 Qj Qj Qj
 rw[HU ha a 0 (by omega) fun _ h=>h,HU hb b 0 (by omega) fun _ h=>h,decide_eq_false (show ¬ (a.length:Int)>256 by omega),decide_eq_false (show ¬ (b.length:Int)>256 by omega)]
 rfl
theorem Fp {s:Zh} (hs:Site s) {T:Nat} (hT:T≤200):∀ (xs:List Zm) (k:Nat) (feed:List Zl),(∀ f∈xs,QS f)→X5 (T:Int) s xs k feed=.inl (feed++XK s xs (T:Int))
 | [],_,feed,_=>by unfold X5 XK;simp
 | f::xs,k,feed,h=>by
  have h0:=V3 hs (h f (List.mem_cons_self ..)) (t:=(T:Int)) (by omega)
  unfold X5
  simp only
  rw[show (⟨(T:Int),ZU f (T:Int),f.height,f.code,0⟩:Zf)=QI f (T:Int) from rfl,h0,show ((0:Int) != 0)=false from rfl,cond_false,Fp hs hT xs (k+1) _ fun f hf=>h f (List.mem_cons_of_mem _ hf)]
  unfold XK
  simp
theorem PU {fs:List Zm} (hf:∀ f∈fs,QS f) (hn:fs.length≤3) {T:Nat} (hT:T≤200) :
  ∃ l,Z1 Z6 fs (T:Int)=(l,true)∧l.length≤6∧(∀ s∈l,∃ f∈fs,VE s (T:Int) f.height f.code (Jn f T))∧∀ f∈fs,∃ s∈l,s.Code=f.code:=by
 have q1:=fun p (hp:p∈XK JC fs (T:Int))=>NC hf hT GE hp
 have q2:=fun p (hp:p∈XK JL fs (T:Int))=>NC hf hT HS hp
 have l1:(XK JC fs (T:Int)).length=fs.length:=List.length_map ..
 have l2:(XK JL fs (T:Int)).length=fs.length:=List.length_map ..
 have hm:=S4 q1 q2 (by omega) (by omega)
 obtain⟨pl,hpl⟩:∃ pl,pl=cpt Zl.eqb (UI (XK JC fs (T:Int)++XK JL fs (T:Int))):=⟨_,rfl⟩
 rw[← hpl] at hm
 have hperm:(UI (XK JC fs (T:Int)++XK JL fs (T:Int))).Perm (XK JC fs (T:Int)++XK JL fs (T:Int)):=List.mergeSort_perm ..
 have hsub:pl.Sublist (UI (XK JC fs (T:Int)++XK JL fs (T:Int))):=by rw[hpl];exact PS ..
 have hin:∀ p∈pl,p∈XK JC fs (T:Int)∨p∈XK JL fs (T:Int):=fun p hp=>List.mem_append.1 (hperm.mem_iff.1 (hsub.mem hp))
 have hall:∀ p,p∈XK JC fs (T:Int)→p∈pl:=fun p hp=>by
  rw[hpl];exact PT S3 (hperm.mem_iff.2 (List.mem_append.2 (.inl hp)))
 have hlen:pl.length≤6:=by
  have:=hsub.length_le
  rw[hperm.length_eq,List.length_append] at this
  omega
 have his:∀ p∈pl,∃ s f,MW fs (T:Int) p s f:=fun p hp=>by
  rcases hin p hp with h|h
  ·obtain⟨f,h',rfl⟩:=List.mem_map.1 h;exact⟨JC,f,.inl rfl,h',rfl⟩
  ·obtain⟨f,h',rfl⟩:=List.mem_map.1 h;exact⟨JL,f,.inr rfl,h',rfl⟩
 obtain⟨ys,e,q⟩:=BK hf hT pl 0 [] his
 have hsp:Xl [JC,JL] pl=(ys,0):=by
  unfold Xl
  have c:YO pl=0:=by
   unfold YO
   rw[decide_eq_false (by omega),cond_false,BL pl 0 fun p hp=>by
    rcases hin p hp with h|h
    ·exact(q1 p h).1
    ·exact(q2 p h).1]
   rfl
  rw[show XV [JC,JL]=0 by kernel_rfl,c]
  simp only[bne_self_eq_false,cond_false]
  unfold Y1
  rw[e]
  rfl
 refine⟨ys,?_,by rw[q.len];exact hlen,fun s hs=>?_,fun f hff=>?_⟩
 ·rw[show Z6=[JC,JL] from rfl]
  unfold Z1 X6 X6 X6
  rw[Fp GE hT fs 0 [] hf,Fp HS hT fs 0 [] hf]
  simp only[Sum.elim_inl,List.nil_append]
  rw[show ([XK JC fs (T:Int)] ++ [XK JL fs (T:Int)])=[XK JC fs (T:Int),XK JL fs (T:Int)] from rfl,hm]
  simp only
  rw[hsp]
  rfl
 ·obtain⟨p,hp,s',f,⟨h1,h2,rfl⟩,rfl⟩:=q.right hs
  exact⟨f,h2,(Fo (WN h1) (hf f h2) hT).2⟩
 ·obtain⟨y,hy,s',f',⟨h1,h2,h3⟩,h4⟩:=q.left (hall _ (List.mem_map.2 ⟨f,hff,rfl⟩))
  refine⟨y,hy,?_⟩
  have g:=(Fo (WN h1) (hf f' h2) hT).2
  rw[← h3] at g
  rw[h4,g.code]
  have c1:=Kw (V3 GE (hf f hff) (t:=(T:Int)) (by omega))
  have c2:=Kw (V3 (WN h1) (hf f' h2) (t:=(T:Int)) (by omega))
  have:=congrArg Zl.Code h3
  rw[c1.2.2.2.2,c2.2.2.2.2] at this
  exact this.symm
end Go.Sky
end
section
namespace Go.Sky
open Go Go.Eng Go.Proofs
def YX (f:Za) (p:P):Bool×Int :=
 let r1:=Z2 f
 cond (r1 != 0) (
  (false,r1)) (
  let r2:=Yh p
  cond (r2 != 0) (
   (false,r2)) (
   let r3:=ZQ f.Track.At p f.Track.Radius
   (r3,0)))
set_option maxRecDepth 100000 in
theorem GF (f:Za) (p:P) (w:World):Calls Tryz.prog 15 #[Za.v f,P.v p] w (Ret w (.tuple #[.bool ((YX f p).1),.int .i64 ((YX f p).2)])):=by
 refine Zj (vs:=[Za.v f,P.v p]) (w:=w) Tryz.func15 rfl Tryz.ntmps15 rfl (TC.sr (TL.nw 2 (fun b1=>.p0 b1) (fun b1=>Bk b1 (Za.c f) 44) (fun b1=>{}) (fun b1=>TL.nw 3 (fun b2=>.p0 b2) (fun b2=>Bk b2 (P.c p) 36) (fun b2=>{}) (fun b2=>TL.r 4 [] [(4,.b false),(5,.i 0)] {} (TL.ns (TC.sr (TL.r 1 [1] [(8,Za.v f)] {} (TL.c 9 (Z2 f) (fun r1=>.i r1) (fun w _=>XG f w) {} (fun r1 hr1=>TL.r 3 [] [(6,.i r1)] {} (TL.nr (TL.r 2 [] [(11,.b (r1 != 0))] {} (TL.next rfl (TC.cond (r1 != 0) rfl Kr (fun h1=>?_) (fun h1=>?_))))))))))))))
 ·exact TC.sr (TL.r 3 [] [(4,.b false),(5,.i r1)] {} (TL.next rfl (TC.ret (TE.rt (TE.ret [] (.tuple #[.b false,.i r1]) {} (by unfold YX;refine eS (a:=(false,r1)) (fun (z:Bool×Int)=>(.tuple #[.b z.1,.i z.2]:Value)) ?_;subst hr1;exact Zi h1 (rfl)))))))
 ·refine TC.sn (TC.seq (TC.sr (TL.r 1 [0] [(13,P.v p)] {} (TL.c 14 (Yh p) (fun r2=>.i r2) (fun w _=>Ko p w) {} (fun r2 hr2=>TL.r 3 [] [(7,.i r2)] {} (TL.nr (TL.r 2 [] [(16,.b (r2 != 0))] {} (TL.next rfl (TC.cond (r2 != 0) rfl Kr (fun h2=>?_) (fun h2=>?_))))))))))
  ·exact TC.sr (TL.r 3 [] [(4,.b false),(5,.i r2)] {} (TL.next rfl (TC.ret (TE.rt (TE.ret [] (.tuple #[.b false,.i r2]) {} (by unfold YX;refine eS (a:=(false,r2)) (fun (z:Bool×Int)=>(.tuple #[.b z.1,.i z.2]:Value)) ?_;subst hr1 hr2;exact Zb h1 (Zi h2 (rfl))))))))
  ·exact TC.snr (TL.r 7 [1,0,1] [(20,P.v f.Track.At),(21,P.v p),(24,.i f.Track.Radius)] {} (TL.c 25 (ZQ f.Track.At p f.Track.Radius) (fun r3=>.b r3) (fun w _=>QN f.Track.At p f.Track.Radius w) {} (fun r3 hr3=>TL.r 10 [] [(4,.b r3),(5,.i 0)] {} (TL.next rfl (TC.ret (TE.ret [] (.tuple #[.b r3,.i 0]) {} (by unfold YX;refine eS (a:=(r3,0)) (fun (z:Bool×Int)=>(.tuple #[.b z.1,.i z.2]:Value)) ?_;subst hr1 hr2 hr3;exact Zb h1 (Zb h2 (rfl)))))))))
instance:Inhabited Ze:=⟨Ze.zero⟩
theorem BM {t:Ze} {l:List Zf} {time:Int} {r:List Track×Int×Ze} (hr:Zo t l time=r) (hl:l.length≤32) (hs:Sp time l) (h0:0≤time∧time≤200000) (h1:t.last<time) (hn:t.all.length≤32):r.2.1=0∧r.2.2.all.length≤32∧r.2.2.last=time:=by
 have hc:=V1.2 ⟨hl,h0,h1,hs⟩
 have e:r.2.1=0:=by
  rw[← hr]
  unfold Zo
  simp only[hc]
  rfl
 rcases Hy hr with h|h
 ·exact absurd e h.1
 ·exact⟨e,h.2.2.2.2.2.1 hn,h.2.2.2.2.1⟩
end Go.Sky
end
section
namespace Go.Sky
open Go Go.Eng Go.Glue Go.Srt
def RN (x:followed):Prop:=x.f.Track.State=1∧x.f.Track.Misses=0
theorem PV (x:followed) (h:RN x):Ru x:=.inr (.inl h.1)
structure Fls (fs:List Zm):Prop where
 fly:∀ f∈fs,QS f
 code:(fs.map fun f=>f.code).Nodup
 len:fs.length≤3
theorem Fls.perm {fs gs:List Zm} (h:Fls fs) (hp:gs.Perm fs):Fls gs:=⟨fun f hf=>h.fly f (hp.mem_iff.1 hf),(hp.map _).nodup_iff.2 h.code,by rw[hp.length_eq];exact h.len⟩
theorem Fq {fs gs:List Zm} (h:Fls fs) (hp:gs.Perm fs) {T:Nat} (hT:T≤200) :
  ∃ l,Z1 Z6 fs (T:Int)=(l,true)∧l.length≤6∧(∀ s∈l,OfF gs T s)∧∀ f∈gs,∃ s∈l,s.Code=f.code:=by
 obtain⟨l,l1,l2,l3,l4⟩:=PU h.fly h.len hT
 exact⟨l,l1,l2,fun s hs=>by obtain⟨f,f1,f2⟩:=l3 s hs;exact⟨f,hp.mem_iff.2 f1,f2⟩,fun f hf=>l4 f (hp.mem_iff.1 hf)⟩
theorem BN {fs:List Zm} (h:Fls fs) (T:Int) (h0:0≤T) (h1:T≤48):(Z1 Z6 fs T).2=true∧(Z1 Z6 fs T).1.length≤32∧Sp T (Z1 Z6 fs T).1:=by
 obtain⟨n,rfl⟩:∃ n:Nat,T=(n:Int):=⟨T.toNat,by omega⟩
 obtain⟨l,l1,l2,l3,_⟩:=Fq h (.refl _) (T:=n) (by omega)
 rw[l1]
 exact⟨rfl,by show l.length≤32;omega,fun s hs=>by have:=VF h.fly (by omega) (l3 s hs);exact⟨this.1,this.2.1⟩⟩
theorem HV {fs gs:List Zm} (h:Fls fs) (hp:gs.Perm fs) {t:Ze} {t0 k:Nat} (ht:Trk gs t t0 Ru) (hl:-1≤t.last∧t.last<((4*k:Nat):Int)) (hd:t0+4≤4*k∧4*k≤t0+20) (hT:4*k≤60) :
  ∃ r:Ze,(Z1 Z6 fs ((4*k:Nat):Int)).2=true∧Zo t (Z1 Z6 fs ((4*k:Nat):Int)).1 ((4*k:Nat):Int)=(r.all.map (fun x=>x.f.Track),0,r)∧Trk gs r (4*k) RN∧r.last=((4*k:Nat):Int)∧ids r.all=ids t.all:=by
 obtain⟨l,l1,l2,l3,l4⟩:=Fq h hp (T:=4*k) (by omega)
 have g:=h.perm hp
 obtain⟨r,r1,r2,r3,r4⟩:=Tn g.fly g.code (by have:=g.len;omega) ht hl hd hT (by omega) l3 l4
 rw[l1]
 exact⟨r,rfl,r1,r2,r3,r4⟩
theorem four (k:Nat) (hk:k≤100):w64 (4*(k:Int))=((4*k:Nat):Int):=by rw[Zn (by omega)];omega
theorem OL:Yi ZK=(⟨ZK,[],0,-1⟩,0):=by rfl
theorem PW {fs:List Zm} (h:Fls fs):∃ (r0 r:Ze) (gs:List Zm),gs.Perm fs∧(Z1 Z6 fs 0).2=true∧Zo ⟨ZK,[],0,-1⟩ (Z1 Z6 fs 0).1 0=(r0.all.map (fun x=>x.f.Track),0,r0) ∧
  (Z1 Z6 fs 4).2=true∧Zo r0 (Z1 Z6 fs 4).1 4=(r.all.map (fun x=>x.f.Track),0,r)∧Trk gs r 4 RN∧r.last=4:=by
 obtain⟨l,l1,l2,l3,l4⟩:=Fq h (.refl _) (T:=0) (by omega)
 obtain⟨r0,gs,a1,a2,a3,a4⟩:=M1 h.fly h.code (t:=⟨ZK,[],0,-1⟩) rfl (by omega) l3 l4
 obtain⟨r,q0,q1,q2,q3,q4⟩:=HV h a2 (k:=1) (a3.weak fun x hx=>.inl hx) (by rw[a4];decide) (by decide) (by decide)
 refine⟨r0,r,gs,a2,?_,?_,q0,q1,q2,q3⟩
 ·show (Z1 Z6 fs ((0:Nat):Int)).2=true
  rw[l1]
 ·show Zo _ (Z1 Z6 fs ((0:Nat):Int)).1 0=_
  rw[l1];exact a1
theorem LL (l:List Int):∀ (m k:Nat) (out:List Zm),k+m≤3→(∀ f∈out,f.code<100+4*(k:Int))→(out.map fun f=>f.code).Nodup→((Yl l m k out).map fun f=>f.code).Nodup
 | 0,_,out,_,_,h=>h
 | m+1,k,out,hk,h1,h2=>by
  unfold Yl
  dsimp only
  refine LL l m (k+1) _ (by omega) (fun f hf=>?_) ?_
  ·rcases List.mem_append.1 hf with hf|hf
   ·have:=h1 f hf;omega
   ·rw[List.mem_singleton.1 hf]
    show w64 (100+((4*k:Nat):Int))<_
    rw[Zn (by omega)];omega
  ·rw[List.map_append,List.map_singleton]
   refine List.pairwise_append.2 ⟨h2,List.pairwise_singleton _ _,fun a ha b hb=>?_⟩
   rw[List.mem_singleton.1 hb]
   obtain⟨f,hf,rfl⟩:=List.mem_map.1 ha
   have:=h1 f hf
   show f.code≠w64 (100+((4*k:Nat):Int))
   rw[Zn (by omega)];omega
theorem S5 (l:List Int):Fls (YB l):=by
 have h:=NZ l
 exact⟨h.2,LL l (min (l.length/4) 3) 0 [] (by omega) (fun _ h=>nomatch h) .nil,h.1⟩
theorem ND {f:Zm} (hf:QS f) {x:Za} {t0 d:Nat} (h:Has f x t0) (ht:t0≤60) (hd:d≤60) :
  (Zp x ((t0+d:Nat):Int) 1).2=0∧(Zp x ((t0+d:Nat):Int) 1).1.In∧Knows (Zp x ((t0+d:Nat):Int) 1).1 (Jn f (t0+d)) f.speed∧(Zp x ((t0+d:Nat):Int) 1).1.Track.Code=f.code ∧
   (Zp x ((t0+d:Nat):Int) 1).1.Track.State=x.Track.State∧(Zp x ((t0+d:Nat):Int) 1).1.Track.Height=f.height∧(Zp x ((t0+d:Nat):Int) 1).1.Track.ID=x.Track.ID:=by
 by_cases h0:d=0
 ·subst h0
  rw[Nat.add_zero,← h.fol.time,Di h.fol.inn (by decide)]
  exact⟨rfl,h.fol.inn,h.knows,h.fol.code,rfl,h.fol.high.1,rfl⟩
 ·obtain⟨p1,p2,p3,p4,p5,p6⟩:=Uk (U1 hf) (by decide) (KE hf).1 h.fol h.knows (d:=d) (by omega) (by omega) (by omega) (by omega)
  rw[p2]
  exact⟨p1,p3,p4,h.fol.code,rfl,p6,rfl⟩
theorem Oi {t:Ze} {time:Int}:∀ (xs:List followed) (k:Nat) (out:List Za),(∀ x∈xs,(Zp x.f time t.rules.Accel).2=0) →
  YE t time xs k out=out++xs.map (fun x=>(Zp x.f time t.rules.Accel).1)
 | [],_,out,_=>by unfold YE;simp
 | x::xs,k,out,h=>by
  unfold YE
  simp only
  rw[h x (List.mem_cons_self ..),show ((0:Int)==0)=true from rfl,cond_true,Oi xs (k+1) _ fun y hy=>h y (List.mem_cons_of_mem _ hy)]
  simp
theorem HW {f:Za} (hf:f.In) {p:P} (hp:p.In) (h:Qe (f.Track.At.X-p.X) (f.Track.At.Y-p.Y) f.Track.Radius):YX f p=(true,0):=by
 have hr:=hf.1.2.2.2.2
 unfold YX
 have c1:(Z2 f != 0)=false:=by simp[XQ.2 hf]
 have c2:(Yh p != 0)=false:=by simp[NI.2 hp]
 simp only[c1,c2,cond_false]
 rw[within_iff hf.1.2.1 hp (by omega)]
 refine Prod.ext ?_ rfl
 show decide _=true
 rw[decide_eq_true_eq]
 exact⟨by omega,h.2⟩
theorem EI {gs:List Zm} (hf:∀ f∈gs,QS f) {t:Ze} {t0 d:Nat} {S:followed→Prop} (h:Trk gs t t0 S) (ht:t0≤60) (hd:d≤60) (hl:t.last≤((t0+d:Nat):Int)) :
  ∃ l,Ye t ((t0+d:Nat):Int)=(l,0)∧J1 (fun f y=>∃ x,x.f.Track.ID=y.Track.ID∧S x∧y.Track.State=x.f.Track.State∧y.Track.Code=f.code∧YX y (ZU f ((t0+d:Nat):Int))=(true,0)) gs l:=by
 have hacc:t.rules.Accel=1:=by rw[h.rules];rfl
 refine⟨t.all.map (fun x=>(Zp x.f ((t0+d:Nat):Int) 1).1),?_,h.all.mapr fun f hff x hx hh=>?_⟩
 ·unfold Ye
  rw[show ((decide (((t0+d:Nat):Int)<0))||(decide (((t0+d:Nat):Int)>200000)))=false by simp;omega,decide_eq_false (by omega)]
  simp only[cond_false]
  rw[Oi t.all 0 [] (fun x hx=>by
   rw[hacc]
   obtain⟨f,hff,hh,_⟩:=h.all.right hx
   exact(ND (hf f hff) hh ht hd).1),hacc]
  rfl
 ·obtain⟨q1,q2,q3,q4,q5,q6,q7⟩:=ND (hf f hff) hh.1 ht hd
  refine⟨x,q7.symm,hh.2,q5,q4,?_⟩
  have w:=H4 (hf f hff) (k:=t0+d) (by omega)
  rw[B7 (hf f hff) (by omega)]
  exact HW q2 ⟨by omega,by omega,by omega,by omega⟩ q3.1
end Go.Sky
end
section
namespace Go.Sky
open Go Go.Eng Go.Proofs
def Yr (k:Int) (_x:Int):Bool :=
 decide (k≥_x)
set_option maxRecDepth 100000 in
theorem KV (k:Int) (a__x:Addr) (_x:Int) (w:World) (h__x:Rd w 1 (some a__x) [ic _x]):Calls Tryz.prog 17 #[.int .i64 k,.pointer (some a__x)] w (Ret w (.bool (Yr k _x))):=by
 exact Zj (vs:=[.i k,.pointer (some a__x)]) (w:=w) Tryz.func17 rfl Tryz.ntmps17 rfl (TC.sr (TL.r 1 [] [(3,.b false)] {} (TL.nr (TL.r 1 [] [(4,.i k)] {} (TL.v (sV (Instr.loadAt 3 (.pointer (some a__x)))) 5 (.i _x) (fun w hM=>Zs (off:=0) (.i _x) (h__x.sat hM) (Xu _) Kr Kr) {} (TL.r 4 [] [(3,.b (decide (k≥_x)))] {} (TL.next rfl (TC.ret (TE.ret [] (.b (decide (k≥_x))) {} (by unfold Yr;refine eS (fun z=>(.b z:Value)) ?_;exact rfl))))))))))
def QL (l:List Zm) (c0:Int):Nat→Nat→Int→Ze→(Int×Ze)
 | 0,_,last,t=>(last,t)
 | m+1,k,_,t=>let r3:=Z6
  let r4:=Z1 r3 l (w64 (4*(k:Int)))
  cond (!r4.2) (
   default) (
   let r5:=Yr (k:Int) c0
   cond r5 (
    let r6:=Zo t ([]:List Zf) (w64 (4*(k:Int)))
    cond (r6.2.1 != 0) (
     default) (
     QL l c0 m (k+1) (w64 (4*(k:Int))) r6.2.2)) (
    let r7:=Zo t r4.1 (w64 (4*(k:Int)))
    cond (r7.2.1 != 0) (
     default) (
     QL l c0 m (k+1) (w64 (4*(k:Int))) r7.2.2)))
def VP (l:List Zm) (scans:Int) (c0:Int):Ze×Int×Bool :=
 let r1:=ZK
 let r2:=Yi r1
 cond ((r2.2 != 0)||false) (
  (Ze.zero,0,false)) (
  Y1 (QL l c0 ((scans:Int).toNat) 0 0 r2.1) (fun (last_2,t_2) =>
   (t_2,last_2,true)))
set_option maxRecDepth 100000 in
theorem OM (A_l:Option Addr) (c_l:Nat) (l:List Zm) (scans:Int) (a_c0:Addr) (c0:Int) (w:World) (hM:Sat (cx w) [] w) (h_l:Rd w 6 A_l (l.map Zm.c)) (hc_l:l.length≤c_l) (h_c0:Rd w 1 (some a_c0) [ic c0]) (hT:Uo w) (hn:l.length≤4∧0≤scans∧scans≤12) (hs:∀ T:Int,0≤T→T≤48→(Z1 Z6 l T).2=true∧(Z1 Z6 l T).1.length≤32∧Sp T (Z1 Z6 l T).1):Calls Tryz.prog 10 #[.slice A_l l.length c_l,.int .i64 scans,.func (.func 17) #[] #[.pointer (some a_c0)]] w (QQ (Γ:=Nat×(Option Addr×Nat)) (cx w) (fun g=>.tuple #[.pointer (some ⟨g.1,0,none⟩),.int .i64 ((VP l scans c0).2.1),.bool ((VP l scans c0).2.2)]) (fun g=>[.inl (g.1,.cells (Ze.k (⟨⟨((VP l scans c0).1).rules.Need,((VP l scans c0).1).rules.Of,((VP l scans c0).1).rules.Misses,((VP l scans c0).1).rules.Accel,((VP l scans c0).1).rules.Place,((VP l scans c0).1).rules.Speed⟩,((VP l scans c0).1).all,((VP l scans c0).1).next,((VP l scans c0).1).last⟩:Ze) g.2.1 g.2.2) 118 (0,0)),.inr (Own g.2.1 g.2.2 122 23 ((((VP l scans c0).1).all).map followed.c))])):=by
 have s_l:=h_l.short;rw[List.length_map] at s_l
 refine Yx (w0:=(cx w)) (vs:=[.slice A_l l.length c_l,.i scans,.func (.func 17) #[] #[.pointer (some a_c0)]]) hM Tryz.func10 rfl Tryz.ntmps10 rfl (TC.sr (TL.r 3 [] [(6,.pointer none),(7,.i 0),(8,.b false)] {} (TL.nr (TL.c 18 (ZK) (fun r1=>Zx.v r1) (fun w _=>KO w) {} (fun r1 hr1=>TL.cm (Γ:=Nat×AN) 0 19 (Yi r1) (fun r2 g=>.tuple #[.p0 g.1,.i r2.2]) (fun r2 g=>[Bk g.1 (Ze.k r2.1 g.2.1 g.2.2) 118,Ow g.2.1 g.2.2 122 23 (r2.1.all.map followed.c)]) [] Kr (fun w hM=>UF r1 w hM (by subst hr1;rfl)) {} (fun r2 hr2=>?_))))))
 have kn_:r2.1.all.length≤32∧r2.1.last<0:=by rw[← hr2,← hr1];decide
 rintro⟨b_r2,A,c⟩
 refine TL.know (fun w hM=>hM.short_at 1 rfl) (fun s_r2_1=>TL.r 7 [] [(9,.p0 b_r2),(10,.i r2.2)] {} (TL.ns (TC.sr (TL.r 3 [] [(24,.b (r2.2 != 0))] {} (TL.j 24 (r2.2 != 0) 6 [] [] (fun β=>[(27,.b (β||false))]) Kr {} {} (TL.next rfl (TC.cond ((r2.2 != 0)||false) rfl Kr (fun h1=>?_) (fun h1=>?_))))))))
 ·exact((by have e_:r2.2=0:=(by rw[← hr2,← hr1];rfl);rw[e_] at h1;cases h1):False).elim
 ·have q1_0:=(Ql (Zt h1))
  refine TC.snr (TL.r 1 [] [(11,.i 0)] {} (TL.ns (TC.sr (TL.r 2 [] [(28,.i scans),(29,.i 0)] {} (TL.next rfl ?_)))))
  obtain⟨R1,hR⟩:∃ R,R=QL l c0 ((scans:Int).toNat) 0 0 r2.1:=⟨_,rfl⟩
  refine TC.cut (S:=Int×Ze×(Option Addr)×Nat) (fun (last_2,t_2,A_t_2,c_t_2)=>[(9,.p0 b_r2),(11,.i last_2)]) (fun (last_2,t_2,A_t_2,c_t_2)=>[Bk b_r2 (Ze.k t_2 A_t_2 c_t_2) 118,Ow A_t_2 c_t_2 122 23 (t_2.all.map followed.c)]) (fun (last_2,t_2,A_t_2,c_t_2)=>R1=(last_2,t_2)∧(t_2.all.length≤32)) ?_ ?_
  ·refine TC.block (TC.lw (X:=Nat×Int×Ze×(Option Addr)×Nat) (fun (k,last,t,A_t,c_t)=>[(0,.slice A_l l.length c_l),(2,.func (.func 17) #[] #[.pointer (some a_c0)]),(9,.p0 b_r2),(11,.i last),(28,.i scans),(29,.i (k:Int))]) (fun (k,last,t,A_t,c_t)=>[Bk b_r2 (Ze.k t A_t c_t) 118,Ow A_t c_t 122 23 (t.all.map followed.c)]) (fun (k,last,t,A_t,c_t)=>(scans:Int).toNat-k) (fun (k,last,t,A_t,c_t)=>k≤(scans:Int).toNat∧R1=QL l c0 ((scans:Int).toNat-k) k last t∧(t.all.length≤32∧t.last<4*(k:Int))) ?_ (0,0,r2.1,A,c) ⟨Nat.zero_le _,hR,sz⟩ Kr (sb 3))
   rintro⟨k,last,t,A_t,c_t⟩ ⟨hk,hI,hl_iv0⟩
   refine TC.sr (TL.r 1 [] [(30,.b (decide ((k:Int)<scans)))] {} (TL.ns (TC.cond (decide ((k:Int)<scans)) rfl Kr (fun h2=>?_) (fun h2=>?_))))
   ·have hlt:k<(scans:Int).toNat:=by have:=of_decide_eq_true h2;first|omega|(simp at this;omega)
    have hd:(scans:Int).toNat-k=((scans:Int).toNat-(k+1))+1:=by omega
    refine TC.sn (TC.seq (TC.block (TC.sr (TL.r 2 [] [(12,.i (k:Int))] {} (TL.nr (TL.r 3 [] [(11,.i (w64 (4*(k:Int))))] {} (TL.nr (TL.cn (Γ:=AN) 35 (Z6) (fun r3 g=>.slice g.1 r3.length g.2) (fun r3 g=>[Ow g.1 g.2 85 6 (r3.map Zh.c)]) (fun w _=>K4 w) {} (fun r3 hr3=>?_)))))))))
    have kr_:r3.length=2:=by rw[← hr3];rfl
    rintro⟨A_2,c_2⟩
    refine TL.know (fun w hM=>hM.short_at 0 rfl) (fun s_r3_0=>TL.r 3 [] [(36,.slice A_l l.length c_l),(37,.i (w64 (4*(k:Int))))] {} (TL.cn (Γ:=AN) 38 (Z1 r3 l (w64 (4*(k:Int)))) (fun r4 g=>.tuple #[.slice g.1 r4.1.length g.2,.b r4.2]) (fun r4 g=>[Ow g.1 g.2 42 6 (r4.1.map Zf.c)]) (fun w hM=>Vl A_2 c_2 r3 A_l c_l l (w64 (4*(k:Int))) w (hM.rd_at 0 rfl) (hM.le_at 0 rfl) (h_l.sat hM) hc_l (hT.sat hM) sg) {} (fun r4 hr4=>?_)))
    have kw_:=hs (w64 (4*(k:Int))) (by rw[Zn (by omega)];omega) (by rw[Zn (by omega)];omega);rw[hr3,hr4] at kw_
    rintro⟨A_3,c_3⟩
    refine TL.know (fun w hM=>hM.short_at 0 rfl) (fun s_r4_0=>TL.r 9 [] [(13,.slice A_3 r4.1.length c_3),(14,.b r4.2)] {} (TL.ns (TC.sr (TL.r 2 [] [(42,.b (!r4.2))] {} (TL.next rfl (TC.cond (!r4.2) rfl Kr (fun h3=>?_) (fun h3=>?_)))))))
    ·exact((by rw[kw_.1] at h3;cases h3):False).elim
    ·refine TC.sn (TC.seq (TC.sr (TL.r 2 [] [(43,.func (.func 17) #[] #[.pointer (some a_c0)]),(44,.i (k:Int))] {} (TL.c 45 (Yr (k:Int) c0) (fun r5=>.b r5) (fun w hM=>KV (k:Int) a_c0 c0 w (h_c0.sat hM)) {} (fun r5 hr5=>TL.next rfl (TC.cond r5 rfl Kr (fun h4=>?_) (fun h4=>?_)))))))
     ·refine TC.region (TL.r 1 [] [(13,.slice none 0 0)] {} (TL.nr (TL.r 3 [] [(47,.p0 b_r2),(48,.slice none 0 0),(49,.i (w64 (4*(k:Int))))] {} (TL.conv [Ow none 0 42 6 (([]:List Zf).map Zf.c),Ow A_3 c_3 42 6 (r4.1.map Zf.c),Ow A_2 c_2 85 6 (r3.map Zh.c),Bk b_r2 (Ze.k t A_t c_t) 118,Ow A_t c_t 122 23 (t.all.map followed.c)] (fun _ hM=>hM.emptyrow none 42 6) (TL.conv [Bk b_r2 (Ze.k t A_t c_t) 118,Ow A_t c_t 122 23 (t.all.map followed.c),Ow none 0 42 6 (([]:List Zf).map Zf.c),Ow A_3 c_3 42 6 (r4.1.map Zf.c),Ow A_2 c_2 85 6 (r3.map Zh.c)] (fun _ hM=>hM.perm (px [3,4,0,1,2])) (TL.cm (Γ:=AN×AN) 3 50 (Zo t ([]:List Zf) (w64 (4*(k:Int)))) (fun r6 g=>.tuple #[.slice g.1.1 r6.1.length g.1.2,.i r6.2.1]) (fun r6 g=>[Bk b_r2 (Ze.k r6.2.2 g.2.1 g.2.2) 118,Ow g.2.1 g.2.2 122 23 (r6.2.2.all.map followed.c),Ow none 0 42 6 (([]:List Zf).map Zf.c),Ow g.1.1 g.1.2 40 13 (r6.1.map Track.c)]) [Bk b_r2 (Ze.k t A_t c_t) 118,Ow A_t c_t 122 23 (t.all.map followed.c),Ow none 0 42 6 (([]:List Zf).map Zf.c)] Kr (fun w hM=>XI b_r2 t A_t c_t none 0 ([]:List Zf) (w64 (4*(k:Int))) w hM sg) {} (fun r6 hr6=>?_)))))))
      have kt_:=BM hr6 (by decide) (fun _ h_=>nomatch h_) (by rw[Zn (by omega)];omega) (by rw[Zn (by omega)];omega) (by omega);rw[Zn (x:=4*(k:Int)) (by omega)] at kt_
      rintro⟨⟨A_4,c_4⟩,A_5,c_5⟩
      refine TL.know (fun w hM=>hM.short_at 1 rfl) (fun s_r6_1=>TL.know (fun w hM=>hM.short_at 3 rfl) (fun s_r6_3=>TL.r 9 [] [(16,.i r6.2.1)] {} (TL.nr (TL.r 2 [] [(54,.b (r6.2.1 != 0))] {} (TL.next rfl (TC.cond (r6.2.1 != 0) rfl Kr (fun h5=>?_) (fun h5=>?_)))))))
      ·exact((by rw[kt_.1] at h5;cases h5):False).elim
      ·have q5_0:=(Ql h5)
       exact TC.skip (TE.nb (TE.next (TC.region (TL.r 2 [] [(29,.i (w64 ((k:Int)+1)))] {} (TL.done rfl (TE.rw 29 (.i (w64 ((k:Int)+1))) (.i ((k+1:Nat):Int)) Kr (ZD k (by omega)) (TE.again (x:=(k,last,t,A_t,c_t)) (k+1,w64 (4*(k:Int)),r6.2.2,A_5,c_5) ⟨by omega,hI.trans (by subst hr1 hr2 hr3 hr4 hr5 hr6;rw[hd];exact Zb h3 (Zi h4 (Zb h5 (rfl)))),sl⟩ (mN hlt) Kr (sb 3))))))))
     ·refine TC.snr (TL.r 3 [] [(47,.p0 b_r2),(48,.slice A_3 r4.1.length c_3),(49,.i (w64 (4*(k:Int))))] {} (TL.conv [Bk b_r2 (Ze.k t A_t c_t) 118,Ow A_t c_t 122 23 (t.all.map followed.c),Ow A_3 c_3 42 6 (r4.1.map Zf.c),Ow A_2 c_2 85 6 (r3.map Zh.c)] (fun _ hM=>hM.perm (px [2,3,0,1])) (TL.cm (Γ:=AN×AN) 3 50 (Zo t r4.1 (w64 (4*(k:Int)))) (fun r7 g=>.tuple #[.slice g.1.1 r7.1.length g.1.2,.i r7.2.1]) (fun r7 g=>[Bk b_r2 (Ze.k r7.2.2 g.2.1 g.2.2) 118,Ow g.2.1 g.2.2 122 23 (r7.2.2.all.map followed.c),Ow A_3 c_3 42 6 (r4.1.map Zf.c),Ow g.1.1 g.1.2 40 13 (r7.1.map Track.c)]) [Bk b_r2 (Ze.k t A_t c_t) 118,Ow A_t c_t 122 23 (t.all.map followed.c),Ow A_3 c_3 42 6 (r4.1.map Zf.c)] Kr (fun w hM=>XI b_r2 t A_t c_t A_3 c_3 r4.1 (w64 (4*(k:Int))) w hM sg) {} (fun r7 hr7=>?_))))
      have kt_:=BM hr7 kw_.2.1 kw_.2.2 (by rw[Zn (by omega)];omega) (by rw[Zn (by omega)];omega) (by omega);rw[Zn (x:=4*(k:Int)) (by omega)] at kt_
      rintro⟨⟨A_6,c_6⟩,A_7,c_7⟩
      refine TL.know (fun w hM=>hM.short_at 1 rfl) (fun s_r7_1=>TL.know (fun w hM=>hM.short_at 3 rfl) (fun s_r7_3=>TL.r 9 [] [(16,.i r7.2.1)] {} (TL.nr (TL.r 2 [] [(54,.b (r7.2.1 != 0))] {} (TL.next rfl (TC.cond (r7.2.1 != 0) rfl Kr (fun h6=>?_) (fun h6=>?_)))))))
      ·exact((by rw[kt_.1] at h6;cases h6):False).elim
      ·have q6_0:=(Ql h6)
       exact TC.skip (TE.nb (TE.next (TC.region (TL.r 2 [] [(29,.i (w64 ((k:Int)+1)))] {} (TL.done rfl (TE.rw 29 (.i (w64 ((k:Int)+1))) (.i ((k+1:Nat):Int)) Kr (ZD k (by omega)) (TE.again (x:=(k,last,t,A_t,c_t)) (k+1,w64 (4*(k:Int)),r7.2.2,A_7,c_7) ⟨by omega,hI.trans (by subst hr1 hr2 hr3 hr4 hr5 hr7;rw[hd];exact Zb h3 (Zb h4 (Zb h6 (rfl)))),sl⟩ (mN hlt) Kr (sb 3))))))))
   ·have hd:(scans:Int).toNat-k=0:=by have:=of_decide_eq_false h2;first|omega|(simp at this;omega)
    refine TC.exit (TE.et (TE.et (TE.exit_same ?_)))
    exact TE.cut (last,t,A_t,c_t) (⟨hI.trans (by subst hr1 hr2;rw[hd];exact rfl),sl⟩) Kr (sb 3)
  ·rintro⟨last_2,t_2,A_t_2,c_t_2⟩ ⟨hJ,hl_ov0_0⟩
   refine TE.nr (TL.r 5 [] [(6,.p0 b_r2),(7,.i last_2),(8,.b true)] {} (TL.next rfl (TC.ret ?_)))
   have e:VP l scans c0=(t_2,last_2,true):=by subst hr1 hr2;unfold VP;exact Zb h1 (Yg (hR.symm.trans hJ) (rfl))
   rw[e]
   exact TE.retM (.inl rfl) (b_r2,(A_t_2,c_t_2)) [] (.tuple #[.p0 b_r2,.i last_2,.b true]) {} rfl (fun _ hM=>hM.sub (sb 3))
end Go.Sky
end
section
namespace Go.Sky
open Go Go.Eng Go.Glue Go.Srt
theorem BO {fs gs:List Zm} (h:Fls fs) (hp:gs.Perm fs) {a:Nat} (ha:a≤15) (n:Nat):∀ (m k:Nat) (t:Ze),1≤k→k+m≤a→Trk gs t (4*(k-1)) RN→t.last=((4*(k-1):Nat):Int) →
  ∃ r:Ze,QL fs (a:Int) (m+n) k ((4*(k-1):Nat):Int) t=QL fs (a:Int) n (k+m) ((4*(k+m-1):Nat):Int) r∧Trk gs r (4*(k+m-1)) RN∧r.last=((4*(k+m-1):Nat):Int)
 | 0,k,t,_,_,ht,hl=>⟨t,by rw[Nat.zero_add];rfl,ht,hl⟩
 | m+1,k,t,h1,hk,ht,hl=>by
  obtain⟨r,q0,q1,q2,q3,q4⟩:=HV h hp (k:=k) (ht.weak PV) (by omega) (by omega) (by omega)
  obtain⟨r',e,p1,p2⟩:=BO h hp ha n m (k+1) r (by omega) (by omega) (by rw[Nat.add_sub_cancel];exact q2) (by rw[Nat.add_sub_cancel];exact q3)
  rw[Nat.add_sub_cancel] at e
  refine⟨r',?_,by rw[show k+(m+1)-1=k+1+m-1 by omega];exact p1,by rw[show k+(m+1)-1=k+1+m-1 by omega];exact p2⟩
  rw[show m+1+n=(m+n)+1 by omega,QL]
  simp only
  rw[four k (by omega),q0]
  simp only[Bool.not_true,cond_false]
  rw[show Yr (k:Int) (a:Int)=false from decide_eq_false (by omega),cond_false,q1]
  simp only
  rw[show ((0:Int) != 0)=false from rfl,cond_false,e,show k+(m+1)-1=k+1+m-1 by omega,show k+(m+1)=k+1+m by omega]
theorem S7 {fs gs:List Zm} (h:Fls fs) (hp:gs.Perm fs) {t:Ze} {t0 k:Nat} {q:Int} (hq:0≤q∧q≤3) (ht:Trk gs t t0 (fun x=>(x.f.Track.State=1∨x.f.Track.State=2)∧x.f.Track.Misses=q)) (hl:-1≤t.last∧t.last<((4*k:Nat):Int)) (hd:t0+1≤4*k∧4*k≤t0+20) (hT:4*k≤48) :
  ∃ r:Ze,(Z1 Z6 fs ((4*k:Nat):Int)).2=true∧Zo t [] ((4*k:Nat):Int)=(r.all.map (fun x=>x.f.Track),0,r)∧Trk gs r t0 (fun x=>x.f.Track.State=2∧x.f.Track.Misses=q+1)∧r.last=((4*k:Nat):Int)∧ids r.all=ids t.all:=by
 have g:=h.perm hp
 obtain⟨r,r1,r2,r3,r4⟩:=Tq g.fly g.code (by have:=g.len;omega) hq ht hl hd (by omega)
 exact⟨r,(BN h _ (by omega) (by omega)).1,r1,r2,r3,r4⟩
theorem BP {fs gs:List Zm} (h:Fls fs) (hp:gs.Perm fs) {a t0:Nat}:∀ (m k:Nat) (q:Int) (t:Ze),a≤k→0≤q→q+(m:Int)≤3→1≤k→t0+1≤4*k→4*(k+m)≤t0+20→4*(k+m)≤48 →
  Trk gs t t0 (fun x=>(x.f.Track.State=1∨x.f.Track.State=2)∧x.f.Track.Misses=q)→t.last=((4*(k-1):Nat):Int) →
  ∃ r:Ze,QL fs (a:Int) (m+1) k ((4*(k-1):Nat):Int) t=(((4*(k+m):Nat):Int),r)∧Trk gs r t0 (fun x=>x.f.Track.State=2∧x.f.Track.Misses=q+(m:Int)+1)∧r.last=((4*(k+m):Nat):Int)
 | m,k,q,t,ha,h0,hq,h1,hd,hd2,hT,ht,hl=>by
  obtain⟨r,q0,q1,q2,q3,q4⟩:=S7 h hp (k:=k) (q:=q) (by omega) ht (by omega) (by omega) (by omega)
  have step:QL fs (a:Int) (m+1) k ((4*(k-1):Nat):Int) t=QL fs (a:Int) m (k+1) ((4*k:Nat):Int) r:=by
   rw[QL]
   simp only
   rw[four k (by omega),q0]
   simp only[Bool.not_true,cond_false]
   rw[show Yr (k:Int) (a:Int)=true from decide_eq_true (by omega),cond_true,q1]
   simp only
   rw[show ((0:Int) != 0)=false from rfl,cond_false]
  rw[step]
  match m,hq,hd2,hT with
  | 0,_,_,_=>exact⟨r,rfl,q2.weak (fun x hx=>⟨hx.1,by rw[hx.2];omega⟩),q3⟩
  | m+1,hq,hd2,hT =>
   obtain⟨r',e,p1,p2⟩:=BP h hp (a:=a) m (k+1) (q+1) r (by omega) (by omega) (by omega) (by omega) (by omega) (by omega) (by omega) (q2.weak fun x hx=>⟨.inr hx.1,hx.2⟩) (by rw[Nat.add_sub_cancel];exact q3)
   rw[Nat.add_sub_cancel] at e
   exact⟨r',by rw[e,show k+(m+1)=k+1+m by omega],p1.weak (fun x hx=>⟨hx.1,by rw[hx.2];omega⟩),by rw[p2,show k+(m+1)=k+1+m by omega]⟩
 termination_by m=>m
theorem LM {fs:List Zm} (h:Fls fs) {a b:Nat} (ha:3≤a∧a≤5) (hb:1≤b∧b≤4):∃ (r:Ze) (gs:List Zm),VP fs ((a+b:Nat):Int) (a:Int)=(r,((4*(a+b-1):Nat):Int),true)∧gs.Perm fs∧Trk gs r (4*(a-1)) (fun x=>x.f.Track.State=2∧x.f.Track.Misses=(b:Int))∧r.last=((4*(a+b-1):Nat):Int):=by
 obtain⟨r0,r1,gs,a1,a2,a3,a4,a5,a6,a7⟩:=PW h
 obtain⟨m,rfl⟩:∃ m,a=m+2:=⟨a-2,by omega⟩
 obtain⟨n,rfl⟩:∃ n,b=n+1:=⟨b-1,by omega⟩
 obtain⟨r2,e,b1,b2⟩:=BO h a1 (a:=m+2) (by omega) (n+1) m 2 r1 (by decide) (by omega) a6 a7
 obtain⟨r,e2,c1,c2⟩:=BP h a1 (a:=m+2) (t0:=4*(2+m-1)) n (2+m) 0 r2 (by omega) (by decide) (by omega) (by omega) (by omega) (by omega) (by omega) (b1.weak fun x hx=>⟨.inl hx.1,hx.2⟩) b2
 have z1:m+2+(n+1)-1=2+m+n:=by omega
 have z2:m+2-1=2+m-1:=by omega
 refine⟨r,gs,?_,a1,by rw[z2];exact c1.weak (fun x hx=>⟨hx.1,by rw[hx.2];omega⟩),by rw[z1];exact c2⟩
 unfold VP
 dsimp only
 rw[OL,Int.toNat_natCast]
 dsimp only
 rw[show (((0:Int) != 0)||false)=false from rfl,cond_false,show m+2+(n+1)=(m+(n+1))+1+1 by omega]
 rw[QL]
 simp only
 rw[show w64 (4*((0:Nat):Int))=0 from rfl,a2]
 simp only[Bool.not_true,cond_false]
 rw[show Yr ((0:Nat):Int) ((m+2:Nat):Int)=false from decide_eq_false (by omega),cond_false,a3]
 simp only
 rw[show ((0:Int) != 0)=false from rfl,cond_false,QL]
 simp only
 rw[show w64 (4*(((0:Nat)+1:Nat):Int))=4 from rfl,a4]
 simp only[Bool.not_true,cond_false]
 rw[show Yr (((0:Nat)+1:Nat):Int) ((m+2:Nat):Int)=false from decide_eq_false (by omega),cond_false,a5]
 simp only
 rw[show ((0:Int) != 0)=false from rfl,cond_false]
 have e3:QL fs ((m+2:Nat):Int) (m+(n+1)) (0+1+1) 4 r1=QL fs ((m+2:Nat):Int) (n+1) (2+m) ((4*(2+m-1):Nat):Int) r2:=e
 rw[e3,e2,show m+(n+1)+1+1-1=2+m+n by omega]
 rfl
theorem RO {fs gs:List Zm} (h:Fls fs) (hp:gs.Perm fs) {t:Ze} {t0 k:Nat} {S:followed→Prop} (ht:Trk gs t t0 S) (hS:∀ x,S x→Ru x) (hl:-1≤t.last∧t.last<((4*k:Nat):Int)) (hd:t0+4≤4*k∧4*k≤t0+20) (hT:4*k≤60) :
  ∃ r:Ze,(Z1 Z6 fs ((4*k:Nat):Int)).2=true∧Zo t (Z1 Z6 fs ((4*k:Nat):Int)).1 ((4*k:Nat):Int)=(r.all.map (fun x=>x.f.Track),0,r)∧Trk gs r (4*k) RN∧ids r.all=ids t.all:=by
 obtain⟨r,q0,q1,q2,q3,q4⟩:=HV h hp (k:=k) (ht.weak hS) hl hd hT
 exact⟨r,q0,q1,q2,q4⟩
end Go.Sky
end
section
namespace Go.Sky
open Go Go.Eng Go.Proofs
def Yf (f:Zm) (_x:Za):Bool :=
 f.code==_x.Track.Code
set_option maxRecDepth 100000 in
theorem KW (f:Zm) (a__x:Addr) (_x:Za) (w:World) (h__x:Rd w 20 (some a__x) [Za.c _x]):Calls Tryz.prog 20 #[Zm.v f,.pointer (some a__x)] w (Ret w (.bool (Yf f _x))):=by
 exact Zj (vs:=[Zm.v f,.pointer (some a__x)]) (w:=w) Tryz.func20 rfl Tryz.ntmps20 rfl (TC.sr (TL.nw 2 (fun b1=>.p0 b1) (fun b1=>Bk b1 (Zm.c f) 38) (fun b1=>{}) (fun b1=>TL.r 2 [] [(3,.b false)] {} (TL.nr (TL.r 4 [0] [(5,.i f.code),(7,.pointer (some (a__x.add 10)))] {} (TL.v (sV (Instr.loadAt 3 (.pointer (some (a__x.add 10))))) 8 (.i _x.Track.Code) (fun w hM=>Zs (off:=10) (.i _x.Track.Code) (h__x.sat hM) (Xu _) Kr Kr) {} (TL.r 7 [] [(3,.b (f.code==_x.Track.Code))] {} (TL.next rfl (TC.ret (TE.ret [] (.b (f.code==_x.Track.Code)) {} (by unfold Yf;refine eS (fun z=>(.b z:Value)) ?_;exact rfl)))))))))))
def Xm (c0:Za):List Zm→Nat→((Unit) ⊕ (Int))
 | [],_=>.inl ()
 | x::xs,k=>let r1:=Yf x c0
  cond r1 (
   .inr (k:Int)) (
   Xm c0 xs (k+1))
def XW (s:List Zm) (c0:Za):Int :=
 Sum.elim (fun _ =>
  (-1)) (fun r=>r) (Xm c0 s 0)
set_option maxRecDepth 100000 in
theorem W8 (A_s:Option Addr) (c_s:Nat) (s:List Zm) (a_c0:Addr) (c0:Za) (w:World) (h_s:Rd w 6 A_s (s.map Zm.c)) (_hc_s:s.length≤c_s) (h_c0:Rd w 20 (some a_c0) [Za.c c0]):Calls Tryz.prog 19 #[.slice A_s s.length c_s,.func (.func 20) #[] #[.pointer (some a_c0)]] w (Ret w (.int .i64 (XW s c0))):=by
 have s_s:=h_s.short;rw[List.length_map] at s_s
 refine Zj (vs:=[.slice A_s s.length c_s,.func (.func 20) #[] #[.pointer (some a_c0)]]) (w:=w) Tryz.func19 rfl Tryz.ntmps19 rfl (TC.sr (TL.r 1 [] [(4,.i 0)] {} (TL.ns (TC.sr (TL.r 3 [] [(7,.i (s.length:Int)),(8,.i 0)] {} (TL.next rfl ?_))))))
 obtain⟨R1,hR⟩:∃ R,R=Xm c0 s 0:=⟨_,rfl⟩
 refine TC.cut (S:=Unit) (fun (_:Unit)=>[]) (fun (_:Unit)=>[]) (fun (_:Unit)=>R1=.inl ()) ?_ ?_
 ·refine TC.block (TC.lw (X:=Nat) (fun k=>[(0,.slice A_s s.length c_s),(1,.func (.func 20) #[] #[.pointer (some a_c0)]),(7,.i (s.length:Int)),(8,.i (k:Int))]) (fun k=>[]) (fun k=>s.length-k) (fun k=>k≤s.length∧R1=Xm c0 (s.drop k) k) ?_ 0 ⟨Nat.zero_le _,hR⟩ Kr (sb 0))
  rintro k ⟨hk,hI⟩
  refine TC.sr (TL.r 1 [] [(9,.b (decide ((k:Int)<(s.length:Int))))] {} (TL.ns (TC.cond (decide ((k:Int)<(s.length:Int))) rfl Kr (fun h1=>?_) (fun h1=>?_))))
  ·have hlt:=ltN h1
   obtain⟨x,hx⟩:=elN hlt
   have hd:=drop_at hx
   refine TC.sn (TC.seq (TC.block (TC.sr (TL.r 2 [] [(5,.i (k:Int))] {} (TL.nr (TL.r 3 [] [(11,.func (.func 20) #[] #[.pointer (some a_c0)]),(12,.slice A_s s.length c_s),(13,.i (k:Int))] {} (TL.v (sV (Instr.indexAt 23 (.slice A_s s.length c_s) (.i (k:Int)))) 14 (.pointer (some (Ix A_s (k*6)))) (fun w hM=>Zr (h_s.sat hM) (by simp) Kr sd sd) {} (TL.v (sV (Instr.loadAt 38 (.pointer (some (Ix A_s (k*6)))))) 15 (Zm.v x) (fun w hM=>Z7 (n:=6) (off:=0) (i:=k) (Zm.v x) (h_s.sat hM) (ZA hx) Kr Kr Kr) {} (TL.c 16 (Yf x c0) (fun r1=>.b r1) (fun w hM=>KW x a_c0 c0 w (h_c0.sat hM)) {} (fun r1 hr1=>TL.next rfl (TC.cond r1 rfl Kr (fun h2=>?_) (fun h2=>?_))))))))))))
   ·refine TC.sr (TL.r 2 [] [(4,.i (k:Int))] {} (TL.next rfl (TC.ret (TE.rb (TE.rt (TE.rt (TE.rb (TE.rt (TE.rt ?_)))))))))
    exact TE.ret [] (.i (k:Int)) {} (by unfold XW;refine eS (fun z=>(.i z:Value)) ?_;subst hr1;exact X2 (hR.symm.trans (hI.trans (by rw[hd];exact Zi h2 (rfl)))) rfl)
   ·exact TC.skip (TE.nb (TE.next (TC.region (TL.r 2 [] [(8,.i (w64 ((k:Int)+1)))] {} (TL.done rfl (TE.rw 8 (.i (w64 ((k:Int)+1))) (.i ((k+1:Nat):Int)) Kr (ZD k (by omega)) (TE.again (x:=k) (k+1) ⟨by omega,hI.trans (by subst hr1;rw[hd];exact Zb h2 (rfl))⟩ (mN hlt) Kr (sb 0))))))))
  ·have hd:=XO h1
   refine TC.exit (TE.et (TE.et (TE.exit_same ?_)))
   exact TE.cut () (hI.trans (by rw[hd];exact rfl)) Kr (sb 0)
 ·intro _ hJ
  exact TE.nr (TL.r 1 [] [(4,.i (-1))] {} (TL.next rfl (TC.ret (TE.ret [] (.i (-1)) {} (by unfold XW;refine eS (fun z=>(.i z:Value)) ?_;exact XE (hR.symm.trans hJ) (rfl))))))
def YR (r1:List Zm) (r4:Ze×Int×Bool):List Za→Nat→((Unit) ⊕ (Bool))
 | [],_=>.inl ()
 | x::xs,k=>let r8:=XW r1 x
  cond ((decide (r8<0))||(x.Track.State != 2)) (
   .inr false) (
   let r9:=ZU (r1[r8.toNat]?.getD Zm.zero) r4.2.1
   let r10:=YX x r9
   cond ((r10.2 != 0)||(!r10.1)) (
    .inr false) (
    YR r1 r4 xs (k+1)))
def YS (r6:List Za):List Track→Nat→((Unit) ⊕ (Bool))
 | [],_=>.inl ()
 | x_2::xs,k_2=>cond ((x_2.ID != (((r6[k_2]?.getD Za.zero).Track).ID))||(x_2.State != 1)) (
   .inr false) (
   YS r6 xs (k_2+1))
def Yc (l:List Int) (from_:Int) (many:Int):Bool :=
 let r1:=YB l
 let r2:=ZG from_ 3 5
 let r3:=ZG many 1 4
 let r4:=VP r1 (w64 (r2+r3)) r2
 let r5:=X9
 cond ((!r5)||(!r4.2.2)) (
  false) (
  let r6:=YU r4.1
  let r7:=Ye r4.1 r4.2.1
  cond (((r7.2 != 0)||((r7.1.length:Int) != (r1.length:Int)))||((r6.length:Int) != (r1.length:Int))) (
   false) (
   Sum.elim (fun _ =>
    let r11:=Z6
    let r12:=Z1 r11 r1 (w64 (r4.2.1+4))
    cond (!r12.2) (
     false) (
     let r13:=Zo r4.1 r12.1 (w64 (r4.2.1+4))
     cond ((r13.2.1 != 0)||((r13.1.length:Int) != (r1.length:Int))) (
      false) (
      Sum.elim (fun _ =>
       true) (fun r=>r) (YS r6 r13.1 0)))) (fun r=>r) (YR r1 r4 r7.1 0)))
theorem LN (x:Za):∀ (xs:List Zm) (k:Nat),Xm x xs k=.inl ()∨∃ j:Nat,Xm x xs k=.inr ((k+j:Nat):Int)∧j<xs.length
 | [],_=>.inl rfl
 | y::xs,k=>by
  unfold Xm
  simp only
  cases Yf y x with
  | true=>exact .inr ⟨0,rfl,Nat.zero_lt_succ _⟩
  | false =>
   rcases LN x xs (k+1) with h|⟨j,h,h2⟩
   ·exact .inl h
   ·exact .inr ⟨j+1,by rw[cond_false,h];congr 2;omega,Nat.succ_lt_succ h2⟩
theorem ON {x:Za} {fs:List Zm} {r:Int} (h:XW fs x=r):r<(fs.length:Int):=by
 subst h
 unfold XW
 rcases LN x fs 0 with h|⟨j,h,h2⟩
 ·rw[h];show (-1:Int)<_;omega
 ·rw[h];show ((0+j:Nat):Int)<_;omega
theorem RP {fs:List Zm} (h:Fls fs) {r2 r3:Int} (h2:3≤r2∧r2≤5) (h3:1≤r3∧r3≤4) {r:Ze×Int×Bool} (hr:VP fs (w64 (r2+r3)) r2=r):r.1.all.length≤3∧r.2.1=r.1.last∧0≤r.2.1∧r.2.1≤40:=by
 obtain⟨a,rfl⟩:∃ n:Nat,r2=(n:Int):=⟨r2.toNat,by omega⟩
 obtain⟨b,rfl⟩:∃ n:Nat,r3=(n:Int):=⟨r3.toNat,by omega⟩
 obtain⟨t,gs,e,p,q,q2⟩:=LM h (a:=a) (b:=b) (by omega) (by omega)
 rw[show w64 ((a:Int)+(b:Int))=((a+b:Nat):Int) by rw[Zn (by omega)];omega,e] at hr
 subst hr
 exact⟨by rw[q.all.len,p.length_eq];exact h.len,q2.symm,by dsimp only;omega,by dsimp only;omega⟩
set_option maxHeartbeats 4000000 in
set_option maxRecDepth 100000 in
theorem Vq (A_l:Option Addr) (c_l:Nat) (l:List Int) (from_:Int) (many:Int) (w:World) (h_l:Rd w 1 A_l (l.map ic)) (hc_l:l.length≤c_l) (hT:Uo w):Calls Tryz.prog 4 #[.slice A_l l.length c_l,.int .i64 from_,.int .i64 many] w (Ret w (.bool (Yc l from_ many))):=by
 have s_l:=h_l.short;rw[List.length_map] at s_l
 refine Zj (vs:=[.slice A_l l.length c_l,.i from_,.i many]) (w:=w) Tryz.func4 rfl Tryz.ntmps4 rfl (TC.sr (TL.nw 4 (fun b1=>.p0 b1) (fun b1=>Bk b1 #[.i from_] 3) (fun b1=>{}) (fun b1=>TL.r 2 [] [(6,.b false)] {} (TL.nr (TL.r 1 [] [(23,.slice A_l l.length c_l)] {} (TL.cn (Γ:=AN) 24 (YB l) (fun r1 g=>.slice g.1 r1.length g.2) (fun r1 g=>[Ow g.1 g.2 38 6 (r1.map Zm.c)]) (fun w hM=>Uh A_l c_l l w (h_l.sat hM) hc_l) {} (fun r1 hr1=>?_)))))))
 have kf_:Fls r1:=by rw[← hr1];exact S5 l
 rintro⟨A,c⟩
 refine TL.know (fun w hM=>hM.short_at 0 rfl) (fun s_r1_0=>TL.r 3 [] [(7,.slice A r1.length c)] {} (TL.nr (TL.r 1 [1] [(25,.i from_)] {} (TL.c 26 (ZG from_ 3 5) (fun r2=>.i r2) (fun w _=>XM from_ 3 5 w (by first|omega|first|decide|omega|(simp only[Y7];omega)|(simp <;> omega))) {} (fun r2 hr2=>?_)))))
 have kb2_:=JA hr2 (by decide) (by decide) (by decide)
 refine TL.r 3 [] [(27,.i many)] {} (TL.c 28 (ZG many 1 4) (fun r3=>.i r3) (fun w _=>XM many 1 4 w (by first|omega|first|decide|omega|(simp only[Y7];omega)|(simp <;> omega))) {} (fun r3 hr3=>?_))
 have kb3_:=JA hr3 (by decide) (by decide) (by decide)
 refine TL.s 1 (Bk b1 #[.i r2] 3) (fun _=>{}) (TL.r 6 [] [(2,.i r3)] {} (TL.nr (TL.r 5 [1] [(30,.slice A r1.length c),(33,.i (w64 (r2+r3))),(34,.func (.func 17) #[] #[.p0 b1])] {} (TL.cn (Γ:=Nat×AN) 35 (VP r1 (w64 (r2+r3)) r2) (fun r4 g=>.tuple #[.p0 g.1,.i r4.2.1,.b r4.2.2]) (fun r4 g=>[Bk g.1 (Ze.k r4.1 g.2.1 g.2.2) 118,Ow g.2.1 g.2.2 122 23 (r4.1.all.map followed.c)]) (fun w hM=>OM A c r1 (w64 (r2+r3)) ⟨b1,0,none⟩ r2 w (Sat.start w) (hM.rd_at 0 rfl) (hM.le_at 0 rfl) (Rd.lit hM 1 _ rfl Kr Kr Kr) (hT.sat hM) ⟨Nat.le_trans kf_.len (by decide),by rw[Zn (by omega)];omega,by rw[Zn (by omega)];omega⟩ (BN kf_)) {} (fun r4 hr4=>?_)))))
 have kr_:=RP kf_ kb2_ kb3_ hr4
 rintro⟨b_r4,A_2,c_2⟩
 refine TL.know (fun w hM=>hM.short_at 1 rfl) (fun s_r4_1=>TL.r 13 [] [(8,.p0 b_r4),(9,.i r4.2.1),(10,.b r4.2.2)] {} (TL.ns (TC.sr (TL.c 39 (X9) (fun r5=>.b r5) (fun w _=>US w) {} (fun r5 hr5=>TL.r 3 [] [(41,.b (!r5))] {} (TL.j 41 (!r5) 6 [] [] (fun β=>[(44,.b (β||(!r4.2.2)))]) Kr {} {} (TL.next rfl (TC.cond ((!r5)||(!r4.2.2)) rfl Kr (fun h1=>?_) (fun h1=>?_)))))))))
 ·exact TC.sr (TL.r 1 [] [(6,.b false)] {} (TL.next rfl (TC.ret (TE.rt (TE.ret [] (.b false) {} (by unfold Yc;refine eS (fun z=>(.b z:Value)) ?_;subst hr1 hr2 hr3 hr4 hr5;exact Zi h1 (rfl)))))))
 ·refine TC.snr (TL.r 1 [] [(45,.p0 b_r4)] {} (TL.cn (Γ:=AN) 46 (YU r4.1) (fun r6 g=>.slice g.1 r6.length g.2) (fun r6 g=>[Ow g.1 g.2 44 20 (r6.map Za.c)]) (fun w hM=>Vp ⟨b_r4,0,none⟩ r4.1 A_2 c_2 w (Rd.lit hM 0 _ rfl Kr Kr Kr) (hM.rd_at 1 rfl) (hM.le_at 1 rfl) sg) {} (fun r6 hr6=>?_)))
  rintro⟨A_3,c_3⟩
  refine TL.know (fun w hM=>hM.short_at 0 rfl) (fun s_r6_0=>TL.r 3 [] [(11,.slice A_3 r6.length c_3)] {} (TL.nr (TL.r 2 [] [(48,.p0 b_r4),(49,.i r4.2.1)] {} (TL.cn (Γ:=AN) 50 (Ye r4.1 r4.2.1) (fun r7 g=>.tuple #[.slice g.1 r7.1.length g.2,.i r7.2]) (fun r7 g=>[Ow g.1 g.2 44 20 (r7.1.map Za.c)]) (fun w hM=>Uc ⟨b_r4,0,none⟩ r4.1 A_2 c_2 r4.2.1 w (Rd.lit hM 1 _ rfl Kr Kr Kr) (hM.rd_at 2 rfl) (hM.le_at 2 rfl) sg) {} (fun r7 hr7=>?_)))))
  rintro⟨A_4,c_4⟩
  refine TL.know (fun w hM=>hM.short_at 0 rfl) (fun s_r7_0=>TL.r 8 [] [(12,.slice A_4 r7.1.length c_4),(13,.i r7.2)] {} (TL.ns (TC.sr (TL.r 3 [] [(55,.b (r7.2 != 0))] {} (TL.j 55 (r7.2 != 0) 9 [] [] (fun β=>[(61,.b (β||((r7.1.length:Int) != (r1.length:Int))))]) Kr {} {} (TL.r 10 [] [(62,.b ((r7.2 != 0)||((r7.1.length:Int) != (r1.length:Int))))] {} (TL.j 62 ((r7.2 != 0)||((r7.1.length:Int) != (r1.length:Int))) 16 [] [] (fun β=>[(68,.b (β||((r6.length:Int) != (r1.length:Int))))]) Kr {} {} (TL.next rfl (TC.cond (((r7.2 != 0)||((r7.1.length:Int) != (r1.length:Int)))||((r6.length:Int) != (r1.length:Int))) rfl Kr (fun h2=>?_) (fun h2=>?_))))))))))
  ·exact TC.sr (TL.r 1 [] [(6,.b false)] {} (TL.next rfl (TC.ret (TE.rt (TE.ret [] (.b false) {} (by unfold Yc;refine eS (fun z=>(.b z:Value)) ?_;subst hr1 hr2 hr3 hr4 hr5 hr6 hr7;exact Zb h1 (Zi h2 (rfl))))))))
  ·have q2_0:=(Ql (Zt (Zt h2)))
   have q2_1:=(Ql (ZO (Zt h2)))
   have q2_2:=(Ql (ZO h2))
   refine TC.sn (TC.seq (TC.sr (TL.r 3 [] [(69,.slice A_4 r7.1.length c_4),(70,.i (r7.1.length:Int)),(71,.i 0)] {} (TL.next rfl ?_))))
   obtain⟨R1,hR⟩:∃ R,R=YR r1 r4 r7.1 0:=⟨_,rfl⟩
   refine TC.cut (S:=Unit) (fun (_:Unit)=>[(7,.slice A r1.length c),(8,.p0 b_r4),(9,.i r4.2.1),(11,.slice A_3 r6.length c_3)]) (fun (_:Unit)=>[Ow A_3 c_3 44 20 (r6.map Za.c),Bk b_r4 (Ze.k r4.1 A_2 c_2) 118,Ow A_2 c_2 122 23 (r4.1.all.map followed.c),Ow A c 38 6 (r1.map Zm.c)]) (fun (_:Unit)=>R1=.inl ()) ?_ ?_
   ·refine TC.block (TC.lw (X:=Nat) (fun k=>[(7,.slice A r1.length c),(8,.p0 b_r4),(9,.i r4.2.1),(11,.slice A_3 r6.length c_3),(69,.slice A_4 r7.1.length c_4),(70,.i (r7.1.length:Int)),(71,.i (k:Int))]) (fun k=>[Ow A_4 c_4 44 20 (r7.1.map Za.c),Ow A_3 c_3 44 20 (r6.map Za.c),Bk b_r4 (Ze.k r4.1 A_2 c_2) 118,Ow A_2 c_2 122 23 (r4.1.all.map followed.c),Ow A c 38 6 (r1.map Zm.c)]) (fun k=>r7.1.length-k) (fun k=>k≤r7.1.length∧R1=YR r1 r4 (r7.1.drop k) k) ?_ 0 ⟨Nat.zero_le _,hR⟩ Kr (sb 31))
    rintro k ⟨hk,hI⟩
    refine TC.sr (TL.r 1 [] [(72,.b (decide ((k:Int)<(r7.1.length:Int))))] {} (TL.ns (TC.cond (decide ((k:Int)<(r7.1.length:Int))) rfl Kr (fun h3=>?_) (fun h3=>?_))))
    ·have hlt:=ltN h3
     obtain⟨x,hx⟩:=elN hlt
     have hd:=drop_at hx
     refine TC.sn (TC.seq (TC.block (TC.sr (TL.v (sV (Instr.indexAt 31 (.slice A_4 r7.1.length c_4) (.i (k:Int)))) 73 (.pointer (some (Ix A_4 (k*20)))) (fun w hM=>Zr (hM.rd_at 0 rfl) (by simp) Kr sd sd) {} (TL.v (sV (Instr.loadAt 44 (.pointer (some (Ix A_4 (k*20)))))) 74 (Za.v x) (fun w hM=>Z7 (n:=20) (off:=0) (i:=k) (Za.v x) (hM.rd_at 0 rfl) (ZA hx) Kr Kr Kr) {} (TL.nw 15 (fun b2=>.p0 b2) (fun b2=>Bk b2 (Za.c Za.zero) 44) (fun b2=>{}) (fun b2=>TL.s 0 (Bk b2 (Za.c x) 44) (fun _=>{}) (TL.nr (TL.r 2 [] [(75,.slice A r1.length c),(76,.func (.func 20) #[] #[.p0 b2])] {} (TL.c 77 (XW r1 x) (fun r8=>.i r8) (fun w hM=>W8 A c r1 ⟨b2,0,none⟩ x w (hM.rd_at 5 rfl) (hM.le_at 5 rfl) (Rd.lit hM 0 _ rfl Kr Kr Kr)) {} (fun r8 hr8=>?_)))))))))))
     have ki_:=ON hr8
     refine TL.r 4 [] [(16,.i r8)] {} (TL.ns (TC.sr (TL.r 3 [] [(80,.b (decide (r8<0)))] {} (TL.j 80 (decide (r8<0)) 8 [] [0] (fun β=>[(85,.b (β||(x.Track.State != 2)))]) Kr {} {} (TL.next rfl (TC.cond ((decide (r8<0))||(x.Track.State != 2)) rfl Kr (fun h4=>?_) (fun h4=>?_)))))))
     ·refine TC.sr (TL.r 1 [] [(6,.b false)] {} (TL.next rfl (TC.ret (TE.rt (TE.rb (TE.rt (TE.rt (TE.rb (TE.rt (TE.rt ?_))))))))))
      exact TE.ret [] (.b false) {} (by unfold Yc;refine eS (fun z=>(.b z:Value)) ?_;subst hr1 hr2 hr3 hr4 hr5 hr6 hr7 hr8;exact Zb h1 (Zb h2 (X2 (hR.symm.trans (hI.trans (by rw[hd];exact Zi h4 (rfl)))) rfl)))
     ·have q4_0:=(Zq (Zt h4))
      have q4_1:=(Ql (ZO h4))
      refine TC.sn (TC.seq (TC.draw 13 Kr Kr Kr (TQ.r 3 [0] [(87,Za.v x),(88,.slice A r1.length c),(89,.i r8)] {} (TQ.v (sV (Instr.indexAt 23 (.slice A r1.length c) (.i r8))) 90 (.pointer (some (Ix A (r8.toNat*6)))) (fun w hM=>Zr (hM.rd_at 5 rfl) (by simp) Kr sd sd) rfl {} (TQ.v (sV (Instr.loadAt 38 (.pointer (some (Ix A (r8.toNat*6)))))) 91 (Zm.v (r1[r8.toNat]?.getD Zm.zero)) (fun w hM=>Z7 (n:=6) (off:=0) (i:=r8.toNat) (Zm.v (r1[r8.toNat]?.getD Zm.zero)) (hM.rd_at 5 rfl) (ZA (getD_at _ _ Zm.zero sd)) Kr Kr Kr) rfl {} (TQ.r 6 [] [(92,.i r4.2.1)] {} (TQ.c 93 (ZU (r1[r8.toNat]?.getD Zm.zero) r4.2.1) (fun r9=>P.v r9) (fun w _=>Jy (r1[r8.toNat]?.getD Zm.zero) r4.2.1 w) rfl {} (fun r9 hr9=>TQ.c 94 (YX x r9) (fun r10=>.tuple #[.b r10.1,.i r10.2]) (fun w _=>GF x r9 w) rfl {} (fun r10 hr10=>TQ.r 13 [] [(17,.b r10.1),(18,.i r10.2)] {} (TQ.next rfl (TC.sr (TL.r 3 [] [(99,.b (r10.2 != 0))] {} (TL.j 99 (r10.2 != 0) 6 [] [] (fun β=>[(102,.b (β||(!r10.1)))]) Kr {} {} (TL.next rfl (TC.cond ((r10.2 != 0)||(!r10.1)) rfl Kr (fun h5=>?_) (fun h5=>?_))))))))))))))))
      ·refine TC.sr (TL.r 1 [] [(6,.b false)] {} (TL.next rfl (TC.ret (TE.rb (TE.rt (TE.rt (TE.rb (TE.rt (TE.rt ?_)))))))))
       exact TE.ret [] (.b false) {} (by unfold Yc;refine eS (fun z=>(.b z:Value)) ?_;subst hr1 hr2 hr3 hr4 hr5 hr6 hr7 hr8 hr9 hr10;exact Zb h1 (Zb h2 (X2 (hR.symm.trans (hI.trans (by rw[hd];exact Zb h4 (Zi h5 (rfl))))) rfl)))
      ·have q5_0:=(Ql (Zt h5))
       exact TC.skip (TE.nb (TE.next (TC.region (TL.r 2 [] [(71,.i (w64 ((k:Int)+1)))] {} (TL.done rfl (TE.rw 71 (.i (w64 ((k:Int)+1))) (.i ((k+1:Nat):Int)) Kr (ZD k (by omega)) (TE.again (x:=k) (k+1) ⟨by omega,hI.trans (by subst hr1 hr2 hr3 hr4 hr5 hr6 hr7 hr8 hr9 hr10;rw[hd];exact Zb h4 (Zb h5 (rfl)))⟩ (mN hlt) Kr (sb 62))))))))
    ·have hd:=XO h3
     refine TC.exit (TE.et (TE.et (TE.exit_same ?_)))
     exact TE.cut () (hI.trans (by subst hr1 hr2 hr3 hr4 hr5 hr6 hr7;rw[hd];exact rfl)) Kr (sb 30)
   ·intro _ hJ
    refine TE.nr (TL.cn (Γ:=AN) 105 (Z6) (fun r11 g=>.slice g.1 r11.length g.2) (fun r11 g=>[Ow g.1 g.2 85 6 (r11.map Zh.c)]) (fun w _=>K4 w) {} (fun r11 hr11=>?_))
    have kr11_:r11.length=2:=by rw[← hr11];rfl
    rintro⟨A_5,c_5⟩
    refine TL.know (fun w hM=>hM.short_at 0 rfl) (fun s_r11_0=>TL.r 4 [] [(106,.slice A r1.length c),(108,.i (w64 (r4.2.1+4)))] {} (TL.cn (Γ:=AN) 109 (Z1 r11 r1 (w64 (r4.2.1+4))) (fun r12 g=>.tuple #[.slice g.1 r12.1.length g.2,.b r12.2]) (fun r12 g=>[Ow g.1 g.2 42 6 (r12.1.map Zf.c)]) (fun w hM=>Vl A_5 c_5 r11 A c r1 (w64 (r4.2.1+4)) w (hM.rd_at 0 rfl) (hM.le_at 0 rfl) (hM.rd_at 4 rfl) (hM.le_at 4 rfl) (hT.sat hM) ⟨by omega,Nat.le_trans kf_.len (by decide)⟩) {} (fun r12 hr12=>?_)))
    rintro⟨A_6,c_6⟩
    refine TL.know (fun w hM=>hM.short_at 0 rfl) (fun s_r12_0=>TL.r 10 [] [(10,.b r12.2),(19,.slice A_6 r12.1.length c_6)] {} (TL.ns (TC.sr (TL.r 2 [] [(113,.b (!r12.2))] {} (TL.next rfl (TC.cond (!r12.2) rfl Kr (fun h6=>?_) (fun h6=>?_)))))))
    ·exact TC.sr (TL.r 1 [] [(6,.b false)] {} (TL.next rfl (TC.ret (TE.rt (TE.ret [] (.b false) {} (by unfold Yc;refine eS (fun z=>(.b z:Value)) ?_;subst hr1 hr2 hr3 hr4 hr5 hr6 hr7 hr11 hr12;exact Zb h1 (Zb h2 (XE (hR.symm.trans hJ) (Zi h6 (rfl))))))))))
    ·refine TC.snr (TL.r 4 [] [(115,.p0 b_r4),(116,.slice A_6 r12.1.length c_6),(118,.i (w64 (r4.2.1+4)))] {} (TL.conv [Bk b_r4 (Ze.k r4.1 A_2 c_2) 118,Ow A_2 c_2 122 23 (r4.1.all.map followed.c),Ow A_6 c_6 42 6 (r12.1.map Zf.c),Ow A_5 c_5 85 6 (r11.map Zh.c),Ow A_3 c_3 44 20 (r6.map Za.c),Ow A c 38 6 (r1.map Zm.c)] (fun _ hM=>hM.perm (px [3,4,0,1,2,5])) (TL.cm (Γ:=AN×AN) 3 119 (Zo r4.1 r12.1 (w64 (r4.2.1+4))) (fun r13 g=>.tuple #[.slice g.1.1 r13.1.length g.1.2,.i r13.2.1]) (fun r13 g=>[Bk b_r4 (Ze.k r13.2.2 g.2.1 g.2.2) 118,Ow g.2.1 g.2.2 122 23 (r13.2.2.all.map followed.c),Ow A_6 c_6 42 6 (r12.1.map Zf.c),Ow g.1.1 g.1.2 40 13 (r13.1.map Track.c)]) [Bk b_r4 (Ze.k r4.1 A_2 c_2) 118,Ow A_2 c_2 122 23 (r4.1.all.map followed.c),Ow A_6 c_6 42 6 (r12.1.map Zf.c)] Kr (fun w hM=>XI b_r4 r4.1 A_2 c_2 A_6 c_6 r12.1 (w64 (r4.2.1+4)) w hM sg) {} (fun r13 hr13=>?_))))
     rintro⟨⟨A_7,c_7⟩,A_8,c_8⟩
     refine TL.know (fun w hM=>hM.short_at 1 rfl) (fun s_r13_1=>TL.know (fun w hM=>hM.short_at 3 rfl) (fun s_r13_3=>TL.r 10 [] [(13,.i r13.2.1),(20,.slice A_7 r13.1.length c_7)] {} (TL.ns (TC.sr (TL.r 3 [] [(124,.b (r13.2.1 != 0))] {} (TL.j 124 (r13.2.1 != 0) 9 [] [] (fun β=>[(130,.b (β||((r13.1.length:Int) != (r1.length:Int))))]) Kr {} {} (TL.next rfl (TC.cond ((r13.2.1 != 0)||((r13.1.length:Int) != (r1.length:Int))) rfl Kr (fun h7=>?_) (fun h7=>?_)))))))))
     ·exact TC.sr (TL.r 1 [] [(6,.b false)] {} (TL.next rfl (TC.ret (TE.rt (TE.ret [] (.b false) {} (by unfold Yc;refine eS (fun z=>(.b z:Value)) ?_;subst hr1 hr2 hr3 hr4 hr5 hr6 hr7 hr11 hr12 hr13;exact Zb h1 (Zb h2 (XE (hR.symm.trans hJ) (Zb h6 (Zi h7 (rfl)))))))))))
     ·have q7_0:=(Ql (Zt h7))
      have q7_1:=(Ql (ZO h7))
      refine TC.sn (TC.seq (TC.sr (TL.r 3 [] [(131,.slice A_7 r13.1.length c_7),(132,.i (r13.1.length:Int)),(133,.i 0)] {} (TL.next rfl ?_))))
      obtain⟨R2,hR_2⟩:∃ R,R=YS r6 r13.1 0:=⟨_,rfl⟩
      refine TC.cut (S:=Unit) (fun (_:Unit)=>[]) (fun (_:Unit)=>[]) (fun (_:Unit)=>R2=.inl ()) ?_ ?_
      ·refine TC.block (TC.lw (X:=Nat) (fun k_2=>[(11,.slice A_3 r6.length c_3),(131,.slice A_7 r13.1.length c_7),(132,.i (r13.1.length:Int)),(133,.i (k_2:Int))]) (fun k_2=>[Ow A_7 c_7 40 13 (r13.1.map Track.c),Ow A_3 c_3 44 20 (r6.map Za.c)]) (fun k_2=>r13.1.length-k_2) (fun k_2=>k_2≤r13.1.length∧R2=YS r6 (r13.1.drop k_2) k_2) ?_ 0 ⟨Nat.zero_le _,hR_2⟩ Kr (sb 40))
       rintro k_2 ⟨hk_2,hI_2⟩
       refine TC.sr (TL.r 1 [] [(134,.b (decide ((k_2:Int)<(r13.1.length:Int))))] {} (TL.ns (TC.cond (decide ((k_2:Int)<(r13.1.length:Int))) rfl Kr (fun h8=>?_) (fun h8=>?_))))
       ·have hlt_2:=ltN h8
        obtain⟨x_2,hx_2⟩:=elN hlt_2
        have hd_2:=drop_at hx_2
        refine TC.sn (TC.seq (TC.block (TC.sr (TL.r 1 [] [(135,.i (k_2:Int))] {} (TL.v (sV (Instr.indexAt 57 (.slice A_7 r13.1.length c_7) (.i (k_2:Int)))) 136 (.pointer (some (Ix A_7 (k_2*13)))) (fun w hM=>Zr (hM.rd_at 0 rfl) (by simp) Kr sd sd) {} (TL.v (sV (Instr.loadAt 40 (.pointer (some (Ix A_7 (k_2*13)))))) 137 (Track.v x_2) (fun w hM=>Z7 (n:=13) (off:=0) (i:=k_2) (Track.v x_2) (hM.rd_at 0 rfl) (ZA hx_2) Kr Kr Kr) {} (TL.nw 22 (fun b3=>.p0 b3) (fun b3=>Bk b3 (Track.c Track.zero) 40) (fun b3=>{}) (fun b3=>TL.r 5 [] [(21,.i (k_2:Int))] {} (TL.s 0 (Bk b3 (Track.c x_2) 40) (fun _=>{}) (TL.ns (TC.draw 14 Kr Kr Kr (TQ.r 4 [0] [(139,.i x_2.ID),(140,.slice A_3 r6.length c_3),(141,.i (k_2:Int))] {} (TQ.v (sV (Instr.indexAt 31 (.slice A_3 r6.length c_3) (.i (k_2:Int)))) 142 (.pointer (some (Ix A_3 (k_2*20)))) (fun w hM=>Zr (hM.rd_at 2 rfl) (by simp) Kr sd sd) rfl {} (TQ.r 7 [] [(144,.pointer (some (Ix A_3 (k_2*20))))] {} (TQ.v (sV (Instr.loadAt 3 (.pointer (some (Ix A_3 (k_2*20)))))) 145 (.i (((r6[k_2]?.getD Za.zero).Track).ID)) (fun w hM=>Zs (off:=0) (i:=k_2) (.i (((r6[k_2]?.getD Za.zero).Track).ID)) (hM.rd_at 2 rfl) (ZA (getD_at _ _ Za.zero sd)) Kr Kr) rfl {} (TQ.r 10 [] [(147,.b (x_2.ID != (((r6[k_2]?.getD Za.zero).Track).ID)))] {} (TQ.j 147 (x_2.ID != (((r6[k_2]?.getD Za.zero).Track).ID)) 14 [] [0] (fun β=>[(151,.b (β||(x_2.State != 1)))]) Kr {} {} (TQ.next rfl (TC.cond ((x_2.ID != (((r6[k_2]?.getD Za.zero).Track).ID))||(x_2.State != 1)) rfl Kr (fun h9=>?_) (fun h9=>?_))))))))))))))))))))
        ·refine TC.sr (TL.r 1 [] [(6,.b false)] {} (TL.next rfl (TC.ret (TE.rb (TE.rt (TE.rt (TE.rb (TE.rt (TE.rt ?_)))))))))
         exact TE.ret [] (.b false) {} (by unfold Yc;refine eS (fun z=>(.b z:Value)) ?_;subst hr1 hr2 hr3 hr4 hr5 hr6 hr7 hr11 hr12 hr13;exact Zb h1 (Zb h2 (XE (hR.symm.trans hJ) (Zb h6 (Zb h7 (X2 (hR_2.symm.trans (hI_2.trans (by rw[hd_2];exact Zi h9 (rfl)))) rfl))))))
        ·have q9_0:=(Ql (Zt h9))
         have q9_1:=(Ql (ZO h9))
         exact TC.skip (TE.nb (TE.next (TC.region (TL.r 2 [] [(133,.i (w64 ((k_2:Int)+1)))] {} (TL.done rfl (TE.rw 133 (.i (w64 ((k_2:Int)+1))) (.i ((k_2+1:Nat):Int)) Kr (ZD k_2 (by omega)) (TE.again (x:=k_2) (k_2+1) ⟨by omega,hI_2.trans (by subst hr1 hr2 hr3 hr4 hr5 hr6 hr7 hr11 hr12 hr13;rw[hd_2];exact Zb h9 (rfl))⟩ (mN hlt_2) Kr (sb 6))))))))
       ·have hd_2:=XO h8
        refine TC.exit (TE.et (TE.et (TE.exit_same ?_)))
        exact TE.cut () (hI_2.trans (by subst hr1 hr2 hr3 hr4 hr5 hr6 hr7 hr11 hr12 hr13;rw[hd_2];exact rfl)) Kr (sb 0)
      ·intro _ hJ_2
       exact TE.nr (TL.r 1 [] [(6,.b true)] {} (TL.next rfl (TC.ret (TE.ret [] (.b true) {} (by unfold Yc;refine eS (fun z=>(.b z:Value)) ?_;subst hr1 hr2 hr3 hr4 hr5 hr6 hr7 hr11 hr12 hr13;exact Zb h1 (Zb h2 (XE (hR.symm.trans hJ) (Zb h6 (Zb h7 (XE (hR_2.symm.trans hJ_2) (rfl)))))))))))
end Go.Sky
end
section
namespace Go.Sky
open Go Go.Eng
theorem S8 {x:Za} {f:Zm} (hc:f.code=x.Track.Code):∀ (xs:List Zm) (k:Nat),f∈xs→∃ (j:Nat) (g:Zm),Xm x xs k=.inr ((k+j:Nat):Int)∧xs[j]?=some g∧g.code=x.Track.Code
 | [],_,h=>by cases h
 | y::xs,k,h=>by
  unfold Xm
  simp only
  by_cases hy:y.code=x.Track.Code
  ·rw[show Yf y x=true by unfold Yf;simpa using hy,cond_true]
   exact⟨0,y,rfl,rfl,hy⟩
  ·rw[show Yf y x=false by unfold Yf;simpa using hy,cond_false]
   rcases List.mem_cons.1 h with rfl|h
   ·exact absurd hc hy
   ·obtain⟨j,g,e,h1,h2⟩:=S8 hc xs (k+1) h
    exact⟨j+1,g,by rw[e];congr 2;omega,by rw[List.getElem?_cons_succ];exact h1,h2⟩
theorem PX {x:Za} {f:Zm} {fs:List Zm} (hn:(fs.map fun f=>f.code).Nodup) (hf:f∈fs) (hc:f.code=x.Track.Code):∃ j:Nat,XW fs x=(j:Int)∧fs[j]?=some f:=by
 obtain⟨j,g,e,h1,h2⟩:=S8 hc fs 0 hf
 have:g=f:=Un (c:=fun f=>f.code) hn (List.mem_of_getElem? h1) hf (by rw[h2,hc])
 subst this
 rw[Nat.zero_add] at e
 refine⟨j,?_,h1⟩
 unfold XW
 rw[e]
 rfl
theorem LO {fs:List Zm} (hn:(fs.map fun f=>f.code).Nodup) {r4:Ze×Int×Bool}:∀ (xs:List Za) (k:Nat),(∀ y∈xs,y.Track.State=2∧∃ f∈fs,y.Track.Code=f.code∧YX y (ZU f r4.2.1)=(true,0))→YR fs r4 xs k=.inl ()
 | [],_,_=>rfl
 | y::xs,k,h=>by
  obtain⟨h1,f,h2,h3,h4⟩:=h y (List.mem_cons_self ..)
  obtain⟨j,j1,j2⟩:=PX hn h2 h3.symm
  unfold YR
  simp only
  rw[j1,decide_eq_false (show ¬ (j:Int)<0 by omega),h1,show (false||((2:Int) != 2))=false from rfl,cond_false,Int.toNat_natCast,j2,Option.getD_some,h4]
  exact LO hn xs (k+1) fun y hy=>h y (List.mem_cons_of_mem _ hy)
theorem LP {b:List Za}:∀ (xs:List Track) (k:Nat),(∀ i x,xs[i]?=some x→x.ID=(b[k+i]?.getD Za.zero).Track.ID∧x.State=1)→YS b xs k=.inl ()
 | [],_,_=>rfl
 | x::xs,k,h=>by
  have h0:=h 0 x rfl
  rw[Nat.add_zero] at h0
  unfold YS
  rw[h0.1,h0.2,show ((b[k]?.getD Za.zero).Track.ID != (b[k]?.getD Za.zero).Track.ID)=false by simp,show (false||((1:Int) != 1))=false from rfl,cond_false]
  exact LP xs (k+1) fun i y hy=>by rw[show k+1+i=k+(i+1) by omega];exact h (i+1) y (by rw[List.getElem?_cons_succ];exact hy)
theorem GG (x0:List Int) (x1 x2:Int) (_s0:x0.length<4611686018427387904) (_k0:∀ a∈x0,Go.Glue.I64 a) (_k1:Go.Glue.I64 x1) (_k2:Go.Glue.I64 x2):Yc x0 x1 x2=true:=by
 have hfl:=S5 x0
 unfold Yc
 dsimp only
 rw[Md,Bool.not_true,Bool.false_or]
 generalize YB x0=fs at hfl
 generalize hr2:ZG x1 3 5=r2
 generalize hr3:ZG x2 1 4=r3
 have b2:=JA hr2 (by decide) (by decide) (by decide)
 have b3:=JA hr3 (by decide) (by decide) (by decide)
 obtain⟨a,rfl⟩:∃ n:Nat,r2=(n:Int):=⟨r2.toNat,by omega⟩
 obtain⟨b,rfl⟩:∃ n:Nat,r3=(n:Int):=⟨r3.toNat,by omega⟩
 have hw:w64 ((a:Int)+(b:Int))=((a+b:Nat):Int):=by rw[Zn (by omega)];omega
 obtain⟨t,gs,e,p,q,ql⟩:=LM hfl (a:=a) (b:=b) (by omega) (by omega)
 rw[hw,e]
 have g:=hfl.perm p
 simp only[Bool.not_true,cond_false]
 have ht:((4*(a+b-1):Nat):Int)=((4*(a-1)+4*b:Nat):Int):=by omega
 obtain⟨l,l1,l2⟩:=EI g.fly q (d:=4*b) (by omega) (by omega) (by rw[ql];omega)
 rw[ht,l1]
 have hlen:l.length=fs.length:=by rw[l2.len,p.length_eq]
 have htr:=Rm t
 have hall:t.all.length=fs.length:=by rw[q.all.len,p.length_eq]
 have hw2:w64 (((4*(a-1)+4*b:Nat):Int)+4)=((4*(a+b):Nat):Int):=by rw[Zn (by omega)];omega
 obtain⟨r,s1,s2,s3,s4⟩:=RO hfl p (k:=a+b) q (fun x hx=>.inr (.inr hx.1)) (by rw[ql];omega) (by omega) (by omega)
 rw[hw2,htr]
 simp only
 rw[s1,s2,hlen,List.length_map,hall,List.length_map,show r.all.length=fs.length by rw[s3.all.len,p.length_eq]]
 rw[show ((((0:Int) != 0)||((fs.length:Int) != (fs.length:Int)))||((fs.length:Int) != (fs.length:Int)))=false by simp,cond_false]
 rw[LO hfl.code l 0 fun y hy=>?_]
 ·simp only[Sum.elim_inl,Bool.not_true,cond_false]
  rw[show (((0:Int) != 0)||((fs.length:Int) != (fs.length:Int)))=false by simp,cond_false,LP _ 0 fun i x hx=>?_]
  ·rfl
  ·rw[List.getElem?_map] at hx
   obtain⟨y,hy,rfl⟩:=Option.map_eq_some_iff.1 hx
   have hid:=congrArg (fun l=>l[i]?) s4
   unfold ids at hid
   simp only[List.getElem?_map] at hid
   rw[hy] at hid
   obtain⟨z,hz,hz2⟩:=Option.map_eq_some_iff.1 hid.symm
   obtain⟨f,_,_,hst,_⟩:=s3.all.right (List.mem_of_getElem? hy)
   refine⟨?_,hst⟩
   rw[Nat.zero_add,List.getElem?_map,hz]
   exact hz2.symm
 ·obtain⟨f,hf,x,_,hx,hs,hcc,hcon⟩:=l2.right hy
  exact⟨by rw[hs];exact hx.1,f,p.mem_iff.1 hf,hcc,hcon⟩
end Go.Sky
end
section
namespace Go.Glue
open Go.ChangeShapes Go.WideShapes Go.ChangeAt Go.RowKit Go.Eng
theorem S9 {H:Type} {enc:TypeId×Value→H} {P:Program} {w:World} {base:Nat} {sp:Nat→Bool} {held:Bool} {fuel:Nat} {t:TypeId} {cs:List Value} {x:DataW H×List MemPlace}
  (ht:P.underlying t=some (.float .f64)) (h:DataW.trod enc P w base sp held fuel t cs=some x):∃ n,cs=[.float .f64 n]∧x=(.lit (.float .f64 n),[]):=by
 cases fuel with
 | zero=>simp[DataW.trod] at h
 | succ n =>
  unfold DataW.trod at h
  rw[ht] at h
  split at h <;> simp_all
theorem RQ {H:Type} {enc:TypeId×Value→H} {P:Program} {w:World} {base:Nat} {sp:Nat→Bool} {held:Bool} {fuel:Nat} {t e:TypeId} {n:Nat} {cs:List Value} {zs:List Nat} {p:List MemPlace}
  (ht:P.underlying t=some (.array n e)) (he:P.underlying e=some (.float .f64)) (hce:P.cellsOf e=1) (hct:P.cellsOf t=n)
  (h:DataW.trod enc P w base sp held fuel t cs=some (.agg (zs.map fun z=>(DataW.lit (.float .f64 z):DataW H)),p)):∀ (i:Nat) (z:Nat),zs[i]?=some z→cs[i]?=some (Value.float .f64 z):=by
 cases fuel with
 | zero=>simp[DataW.trod] at h
 | succ fuel =>
  simp only[DataW.trod,ht,hce,hct,Nat.mul_one] at h
  split at h
  ·obtain⟨xs,hm,hx⟩:=Option.map_eq_some_iff.1 h
   intro i z hz
   have e1:xs.map (·.1)=zs.map fun z=>(DataW.lit (.float .f64 z):DataW H):=by simpa using congrArg Prod.fst hx
   have hl:=Lib.mapM_length hm
   rw[List.length_range] at hl
   have l2:xs.length=zs.length:=by simpa using congrArg List.length e1
   have hi:i<n:=by have:=(List.getElem?_eq_some_iff.1 hz).1;omega
   obtain⟨b,hb,hf⟩:=Lib.mapM_at hm i i (by simp[hi])
   obtain⟨y,hc,rfl⟩:=S9 he hf
   have h1:cs[i]?=some (Value.float .f64 y):=by
    have h:=congrArg (fun l=>l[0]?) hc
    rw[List.getElem?_take_of_lt (by decide),List.getElem?_drop,Nat.add_zero] at h
    exact h
   have h2:(xs.map (·.1))[i]?=some (DataW.lit (.float .f64 y):DataW H):=by simp[hb]
   rw[e1] at h2
   simp[hz] at h2
   rw[h1,h2]
  ·cases h
theorem SA {P:Program} {W:World} {name:String} {zs:List Nat} {g:Nat} {t e:TypeId} {n:Nat} (hg:P.globalNamed name=some g) (hty:(P.globals[g]?).map (·.type)=some t) (ht:P.underlying t=some (.array n e)) (he:P.underlying e=some (.float .f64)) (hce:P.cellsOf e=1) (hct:P.cellsOf t=n)
  (h:∃ (g':Nat) (t':TypeId) (cs:Array Value) (fuel:Nat) (p:List MemPlace),P.globalNamed name=some g'∧(P.globals[g']?).map (·.type)=some t'∧W.var? P name=some cs∧DataW.trod (H:=Unit) (fun _=>()) P W 0 (fun _=>true) false fuel t' cs.toList=some (.agg (zs.map fun z=>(DataW.lit (.float .f64 z):DataW Unit)),p))
  (h0:0<zs.length):M8 W g zs:=by
 obtain⟨g',t',cs,fuel,p,hg',ht',hvar,hd⟩:=h
 obtain rfl:=Option.some.inj (hg.symm.trans hg')
 obtain rfl:=Option.some.inj (hty.symm.trans ht')
 have hc:=RQ ht he hce hct hd
 have cell:∀ (i z:Nat),zs[i]?=some z→W.cell? ⟨g,i,none⟩=some (.float .f64 z):=fun i z hz=>by
  have a:=World.var?_cell hg hvar i
  have b:=hc i z hz
  rw[Array.getElem?_toList] at b
  rw[a,b]
 refine⟨?_,cell⟩
 have:=cell 0 (zs[0]'h0) (List.getElem?_eq_getElem h0)
 unfold World.cell? at this
 cases hb:W.heap[(⟨g,0,none⟩:Addr).block]? with
 | none=>rw[hb] at this;cases this
 | some o=>exact(Array.getElem?_eq_some_iff.1 hb).1
section
variable {H:Type} {enc:TypeId×Value→H}
theorem EJ {C:Checked} {os:Os} {f:FuncId} {fn:Func} {s:ChangeSpec} {tb:TypeId} {L:List (String×DataW Unit)} (hX:∀ w w':World,w.heap=w'.heap→laidMetH C.prog L w→laidMetH C.prog L w') (own:ownKnob C.prog.godebug=none) (started:os.Started) (noInit:C.prog.inits.idxOf? f=none) (hfn:C.prog.funcs[f]?=some fn)
  (hl:laidOutB C.prog=true) (hread:fn.params.toList.all (fun t=>C.prog.readableRec t&&decide (t<C.prog.types.size))=true) (hv:s.vars=[]) (hres:fn.resultTypes=#[tb]) (htb:C.prog.underlying tb=some .bool)
  (hs:∀ ds:List (DataW H),ds.length=fn.params.size→s.fn H ds={ results:=[.lit (.bool true)],args:=ds })
  (witness:∃ (w:World) (tape:Tape) (i:Input),w.os=os∧(w.forCall tape i).Shaped C.prog∧i.vars=[]∧Input.okWide C.prog (w.forCall tape i) .any w.heap.size f i ∧
   ((s.pre enc C.prog fn [] false (w.forCall tape i).memory i.args∧laidMetH C.prog L (w.forCall tape i).memory)∧sizedMet enc C.prog fn (OpenSpec.ofChange s) false (w.forCall tape i).memory i.args)∧({}:Assume).holds C.prog (lone (Frame.enter C.prog f i.args .normal) [] (w.forCall tape i)))
  (law:∀ (W:World) (base:Nat) (args:Array Value) (ds:List (DataW H)) (p:List MemPlace),(∀ (j:Nat) t v,fn.params[j]?=some t→args[j]?=some v→Value.okWide C.prog W .any base t v) →
   DataW.TrodAll enc C.prog W 0 (fun _=>true) true fn.params.toList args.toList ds p→(∀ (j:Nat) (t:TypeId) (d:DataW H),fn.params.toList[j]?=some t→ds[j]?=some d→∀ n∈d.weights C.prog t,n≤reachBytes) →
   laidMetH C.prog L W→Calls C.prog f args W (Ret W (.bool true))) :
  ReturnsInHanded {} C os f .any (fun w args=>(s.pre enc C.prog fn [] false w args∧laidMetH C.prog L w)∧sizedMet enc C.prog fn (OpenSpec.ofChange s) false w args) (s.post enc C.prog fn false true false false):=by
 refine returnsInHanded_of_change_and (X:=fun w _=>laidMetH C.prog L w) (fun w w' _ hh h=>hX w w' hh h) own started noInit hfn witness ?_
 intro W base args ds gs before hval hW _ hsz hL _
 have hW':=hW
 obtain⟨p,q,hA,hV,rfl,hfz,hnd⟩:=hW
 rw[hv] at hV
 obtain⟨rfl,rfl⟩:=trodVars_none hV
 have hlen:ds.length=fn.params.size:=by
  have:=Wm hA
  simpa using this
 have hlt:∀ x∈p,x.block<W.heap.size:=fun x hx=>hW'.lt x (List.mem_append_left _ hx)
 refine(law W base args ds p hval hA (fun j t d ht hd n hn=>?_) hL).mono fun e W' ⟨he,hb⟩=>?_
 ·have h1:n∈DataW.weightsEach C.prog (fn.params.toList++s.plain.varTypes C.prog) (ds ++ []) :=
   DataW.weights_mem_each (j:=j) (by rw[List.getElem?_append_left (by exact(List.getElem?_eq_some_iff.1 ht).1)];exact ht) (by simpa using hd) n hn
  exact of_decide_eq_true (List.all_eq_true.1 hsz n h1)
 ·refine⟨_,he,HZ (pa:=p) (pv:=[]) hW' (fun b sp hd=>?_) (fun sp hsp=>?_) (fun sp _=>?_) rfl hb.kit ?_⟩
  ·rw[hres,List.append_nil,hs ds hlen];exact trodAll_mk1 (shut_bool htb true)
  ·rw[List.append_nil,hs ds hlen];exact Bz hl hb.kit hread hA hlt (fun x hx=>hsp x (List.mem_append_left _ hx))
  ·rw[hv,List.append_nil,hs ds hlen];rfl
  ·exact ok_one hres rfl (okWide_bool_mk htb true)
end
end Go.Glue
end
section
namespace Go.Proofs.YtjggkpkehdnhiaaGreatDoor.topLostPlotsRow
open Go.ChangeShapes Go.WideShapes Go.ChangeAt Go.RowKit Go.Glue Go.Eng Go.Sky
theorem own_:ownKnob Tryz.prog.godebug=none:=by kernel_rfl
theorem tabs_of {W:World} (h:laidMetH Tryz.prog Rows.topLostPlotsRow.laid W):Uo W:=by
 rw[MakeChecks.laidMetH_plain _ _ _ (by kernel_rfl)] at h
 obtain⟨ps,⟨g0,t0,cs0,f0,p0,q0,hg0,ht0,hv0,hd0,⟨g1,t1,cs1,f1,p1,q1,hg1,ht1,hv1,hd1,⟨g2,t2,cs2,f2,p2,q2,hg2,ht2,hv2,hd2,_,_⟩,_⟩,_⟩,_,_⟩:=h
 exact⟨SA (zs:=OX) (by kernel_rfl:Tryz.prog.globalNamed "math._cos"=some 1) (by kernel_rfl) Tryz.underlying286 Tryz.underlying215 (by kernel_rfl) (by kernel_rfl) ⟨g1,t1,cs1,f1,p1,hg1,ht1,hv1,hd1⟩ (by decide),SA (zs:=OW) (by kernel_rfl:Tryz.prog.globalNamed "math._sin"=some 2) (by kernel_rfl) Tryz.underlying286 Tryz.underlying215 (by kernel_rfl) (by kernel_rfl) ⟨g0,t0,cs0,f0,p0,hg0,ht0,hv0,hd0⟩ (by decide)⟩
theorem door_met (os:Os) (args:Array Value):laidMetH Tryz.prog Rows.topLostPlotsRow.laid ((World.doorLaid Tryz.prog 400 os).forCall (fun _ _=>0) ⟨#[],args,[]⟩).memory :=
 laidMetH_of_parts3 (fuel:=8) (laidMet_of_run' 8 (by kernel_rfl) (by kernel_rfl)) (by kernel_rfl) (by kernel_rfl)
set_option maxRecDepth 100000 in
theorem lifted (os:Os) (started:os.Started) (H:Type) (enc:TypeId×Value→H) :
  ReturnsInHanded {} Tryz.checked os 4 .any (fun w args=>(Rows.topLostPlotsSpec.pre enc Tryz.prog Tryz.f4 [] false w args∧laidMetH Tryz.prog Rows.topLostPlotsRow.laid w)∧sizedMet enc Tryz.prog Tryz.f4 (OpenSpec.ofChange Rows.topLostPlotsSpec) false w args) (Rows.topLostPlotsSpec.post enc Tryz.prog Tryz.f4 false true false false):=by
 refine EJ (C:=Tryz.checked) (L:=Rows.topLostPlotsRow.laid) (tb:=4) (fun _ _ hh h=>h.of_heap hh) own_ started (by kernel_rfl) Tryz.func4 (by kernel_rfl) (by kernel_rfl) rfl (by kernel_rfl) Tryz.underlying4 (fun ds h=>by match ds,h with | [_,_,_],_=>rfl)
  (ChangeSpec.witness_shaped (enc:=enc) (C:=Tryz.checked) (os:=os) (X:=fun w _=>laidMetH Tryz.prog Rows.topLostPlotsRow.laid w) false (World.doorLaid Tryz.prog 400 os) #[.slice none 0 0,.int .i64 0,.int .i64 0] 8 rfl (World.shaped_of_RefB (by kernel_rfl) (by kernel_rfl)) (by kernel_rfl) (by kernel_rfl) (by kernel_rfl) (door_met os _)) ?_
 intro W base args ds p hval0 hA0 hw0 hL
 have hval:∀ (j:Nat) t v,Tryz.f4.params[j]?=some t→args[j]?=some v→Value.okWide Tryz.prog W .any base t v:=hval0
 have hA:DataW.TrodAll enc Tryz.prog W 0 (fun _=>true) true Tryz.f4.params.toList args.toList ds p:=hA0
 have hw:∀ (j:Nat) (t:TypeId) (d:DataW H),Tryz.f4.params.toList[j]?=some t→ds[j]?=some d→∀ n∈d.weights Tryz.prog t,n≤reachBytes:=hw0
 clear hval0 hA0 hw0
 rw[Tryz.params4] at hA hval hw
 obtain⟨v0,vs0,d0,ds0,p0,q0,hargs,rfl,rfl,h0,s0⟩:=trodAll_cons hA
 obtain⟨v1,vs1,d1,ds1,p1,q1,rfl,rfl,rfl,h1,s1⟩:=trodAll_cons s0
 obtain⟨v2,vs2,d2,ds2,p2,q2,rfl,rfl,rfl,h2,s2⟩:=trodAll_cons s1
 obtain⟨rfl,rfl,rfl⟩:=trodAll_nil s2
 obtain rfl:args=#[v0,v1,v2]:=by cases args;simp_all
 obtain⟨A0,c0,x0,rfl,r0_,l0_,k0⟩:=LU (LS Tryz.underlying3) Tryz.underlying22 (by kernel_rfl:Tryz.prog.cellsOf 3=1) (by decide) rfl (Nat.le_of_ble_eq_true (by kernel_rfl)) (hval 0 22 v0 rfl rfl) h0 (hw 0 _ _ rfl rfl)
 obtain⟨x1,rfl,k1⟩:=Ln Tryz.underlying3 (hval 1 3 v1 rfl rfl) h1
 obtain⟨x2,rfl,k2⟩:=Ln Tryz.underlying3 (hval 2 3 v2 rfl rfl) h2
 have e:=GG x0 x1 x2 (by have:=r0_.short;rw[List.length_map] at this;exact this) k0 k1 k2
 have r:=Vq A0 c0 x0 x1 x2 W r0_ l0_ (tabs_of hL)
 rw[e] at r
 exact r
end Go.Proofs.YtjggkpkehdnhiaaGreatDoor.topLostPlotsRow
namespace Go.Proofs.YtjggkpkehdnhiaaGreatDoor
theorem topLostPlots_holds:Rows.TopLostPlotsSaid :=
 OpenClaim.holds_of_wide 4 Tryz.f4 rfl rfl rfl rfl rfl rfl rfl ⟨rfl,rfl,rfl,rfl,rfl⟩ rfl rfl rfl rfl rfl (by kernel_rfl) Tryz.func4 (by kernel_rfl)
  (of_decide_eq_true (by kernel_rfl)) (by unfold Func.isWrapper;rw[if_neg (of_decide_eq_false (by kernel_rfl))];exact⟨rfl,rfl⟩)
  (fun os started H enc _=>topLostPlotsRow.lifted os started H enc)
theorem topLostPlots_card:Rows.TopLostPlotsCardSaid :=
 Claim7.holds_tied_plain_at .later [] [.data,.data,.data] true (true, "74d98562085f6681f41be128b2f0adf57d437f7a8ab0c20d8d444da80047e06a") false
  topLostPlots_holds (fun _ h=>by cases h) (by kernel_rfl) (fun _ h=>by cases h) topLostPlots_row_tie rfl ⟨rfl,rfl⟩ (by kernel_rfl) rfl
  (fun f fn hf hfn=>by
   obtain rfl:f=4:=Option.some.inj ((show Tryz.prog.funcNamed "skyway/skywaytop.TopLostPlots"=some 4 by kernel_rfl).symm.trans hf) |>.symm
   obtain rfl:fn=Tryz.f4:=(Option.some.inj (Tryz.func4.symm.trans hfn)).symm
   exact⟨by kernel_rfl,fun j t ht=>by
    rw[Tryz.params4] at ht
    rcases j with _|j
    ·have h3:t=22:=by simpa using ht.symm
     subst h3
     exact(show Tryz.prog.wantsStandIn 22=false by kernel_rfl)
    rcases j with _|j
    ·have h3:t=3:=by simpa using ht.symm
     subst h3
     exact(show Tryz.prog.wantsStandIn 3=false by kernel_rfl)
    rcases j with _|j
    ·have h3:t=3:=by simpa using ht.symm
     subst h3
     exact(show Tryz.prog.wantsStandIn 3=false by kernel_rfl)
    simp at ht⟩)
  (by kernel_rfl)
end Go.Proofs.YtjggkpkehdnhiaaGreatDoor
end
