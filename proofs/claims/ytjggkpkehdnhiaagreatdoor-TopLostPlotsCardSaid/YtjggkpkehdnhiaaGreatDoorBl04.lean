/- Lemmas toward the given statement (part 4 of 20): Wd PlanB Tb. Each theorem states its own conditions; nothing is assumed beyond them. -/
import Derived.Test.YtjggkpkehdnhiaaGreatDoorBl03
import Derived.Test.YtjggkpkehdnhiaaGreatDoorBl02
section
namespace Go.Sky
open Go Go.Eng Go.Proofs
def Y2 (f:Za) (limit:Int):Za×Bool×Int :=
 let r1:=Z2 f
 cond (r1 != 0) (
  ((⟨⟨0,0,0,⟨0,0⟩,⟨0,0⟩,0,0,0,0,0,0⟩,0,⟨0,⟨0,0⟩,0,0,0⟩⟩:Za),false,r1)) (
  cond ((decide (limit<0))||(decide (limit>100))) (
   ((⟨⟨0,0,0,⟨0,0⟩,⟨0,0⟩,0,0,0,0,0,0⟩,0,⟨0,⟨0,0⟩,0,0,0⟩⟩:Za),false,4)) (
   cond (decide (f.Track.Misses<101)) (
    cond (f.Track.State==1) (
     ((⟨⟨f.Track.ID,2,f.Track.Time,f.Track.At,f.Track.Speed,f.Track.Height,f.Track.Rate,f.Track.Radius,f.Track.Code,f.Track.Hits,w64 (f.Track.Misses+1)⟩,f.Slack,f.Last⟩:Za),decide ((w64 (f.Track.Misses+1))>limit),0)) (
     ((⟨⟨f.Track.ID,f.Track.State,f.Track.Time,f.Track.At,f.Track.Speed,f.Track.Height,f.Track.Rate,f.Track.Radius,f.Track.Code,f.Track.Hits,w64 (f.Track.Misses+1)⟩,f.Slack,f.Last⟩:Za),decide ((w64 (f.Track.Misses+1))>limit),0))) (
    cond (f.Track.State==1) (
     ((⟨⟨f.Track.ID,2,f.Track.Time,f.Track.At,f.Track.Speed,f.Track.Height,f.Track.Rate,f.Track.Radius,f.Track.Code,f.Track.Hits,101⟩,f.Slack,f.Last⟩:Za),decide (101>limit),0)) (
     ((⟨⟨f.Track.ID,f.Track.State,f.Track.Time,f.Track.At,f.Track.Speed,f.Track.Height,f.Track.Rate,f.Track.Radius,f.Track.Code,f.Track.Hits,101⟩,f.Slack,f.Last⟩:Za),decide (101>limit),0)))))
set_option maxHeartbeats 4000000 in
set_option maxRecDepth 100000 in
theorem Dk (f:Za) (limit:Int) (w:World):Calls Tryz.prog 55 #[Za.v f,.int .i64 limit] w (Ret w (.tuple #[Za.v ((Y2 f limit).1),.bool ((Y2 f limit).2.1),.int .i64 ((Y2 f limit).2.2)])):=by
 refine Zj (vs:=[Za.v f,.i limit]) (w:=w) Tryz.func55 rfl Tryz.ntmps55 rfl (TC.sr (TL.nw 2 (fun b1=>.p0 b1) (fun b1=>Bk b1 (Za.c f) 44) (fun b1=>{}) (fun b1=>TL.nw 4 (fun b2=>.p0 b2) (fun b2=>Bk b2 (Za.c Za.zero) 44) (fun b2=>{}) (fun b2=>TL.r 4 [] [(5,.b false),(6,.i 0)] {} (TL.ns (TC.sr (TL.r 1 [1] [(8,Za.v f)] {} (TL.c 9 (Z2 f) (fun r1=>.i r1) (fun w _=>XG f w) {} (fun r1 hr1=>TL.r 3 [] [(7,.i r1)] {} (TL.nr (TL.r 2 [] [(11,.b (r1 != 0))] {} (TL.next rfl (TC.cond (r1 != 0) rfl Kr (fun h1=>?_) (fun h1=>?_))))))))))))))
 ·exact TC.sr (TL.r 2 [] [(12,Za.v Za.zero),(13,.i r1)] {} (TL.s 0 (Bk b2 (Za.c Za.zero) 44) (fun _=>{}) (TL.r 5 [] [(5,.b false),(6,.i r1)] {} (TL.next rfl (TC.ret (TE.rt (TE.ret [0] (.tuple #[Za.v (⟨⟨0,0,0,⟨0,0⟩,⟨0,0⟩,0,0,0,0,0,0⟩,0,⟨0,⟨0,0⟩,0,0,0⟩⟩:Za),.b false,.i r1]) {} (by unfold Y2;refine eS (a:=((⟨⟨0,0,0,⟨0,0⟩,⟨0,0⟩,0,0,0,0,0,0⟩,0,⟨0,⟨0,0⟩,0,0,0⟩⟩:Za),false,r1)) (fun (z:Za×Bool×Int)=>(.tuple #[Za.v z.1,.b z.2.1,.i z.2.2]:Value)) ?_;subst hr1;exact Zi h1 (rfl)))))))))
 ·refine TC.sn (TC.seq (TC.sr (TL.r 3 [] [(16,.b (decide (limit<0)))] {} (TL.j 16 (decide (limit<0)) 6 [] [] (fun β=>[(19,.b (β||(decide (limit>100))))]) Kr {} {} (TL.next rfl (TC.cond ((decide (limit<0))||(decide (limit>100))) rfl Kr (fun h2=>?_) (fun h2=>?_)))))))
  ·exact TC.sr (TL.r 1 [] [(20,Za.v Za.zero)] {} (TL.s 0 (Bk b2 (Za.c Za.zero) 44) (fun _=>{}) (TL.r 4 [] [(5,.b false),(6,.i 4)] {} (TL.next rfl (TC.ret (TE.rt (TE.ret [0] (.tuple #[Za.v (⟨⟨0,0,0,⟨0,0⟩,⟨0,0⟩,0,0,0,0,0,0⟩,0,⟨0,⟨0,0⟩,0,0,0⟩⟩:Za),.b false,.i 4]) {} (by unfold Y2;refine eS (a:=((⟨⟨0,0,0,⟨0,0⟩,⟨0,0⟩,0,0,0,0,0,0⟩,0,⟨0,⟨0,0⟩,0,0,0⟩⟩:Za),false,4)) (fun (z:Za×Bool×Int)=>(.tuple #[Za.v z.1,.b z.2.1,.i z.2.2]:Value)) ?_;subst hr1;exact Zb h1 (Zi h2 (rfl))))))))))
  ·refine TC.sn (TC.seq (TC.sr (TL.r 4 [1] [(24,.b (decide (f.Track.Misses<101)))] {} (TL.next rfl (TC.cond (decide (f.Track.Misses<101)) rfl Kr (fun h3=>?_) (fun h3=>?_))))))
   ·refine TC.region (TL.r 6 [1] [(28,.i (w64 (f.Track.Misses+1))),(30,.pt b1 12)] {} (TL.s 1 (Bk b1 (Za.c (⟨⟨f.Track.ID,f.Track.State,f.Track.Time,f.Track.At,f.Track.Speed,f.Track.Height,f.Track.Rate,f.Track.Radius,f.Track.Code,f.Track.Hits,w64 (f.Track.Misses+1)⟩,f.Slack,f.Last⟩:Za)) 44) (fun _=>{}) (TL.ns (TC.sr (TL.r 4 [1] [(36,.b (f.Track.State==1))] {} (TL.next rfl (TC.cond (f.Track.State==1) rfl Kr (fun h4=>?_) (fun h4=>?_))))))))
    ·exact TC.region (TL.r 2 [] [(38,.pt b1 1)] {} (TL.s 1 (Bk b1 (Za.c (⟨⟨f.Track.ID,2,f.Track.Time,f.Track.At,f.Track.Speed,f.Track.Height,f.Track.Rate,f.Track.Radius,f.Track.Code,f.Track.Hits,w64 (f.Track.Misses+1)⟩,f.Slack,f.Last⟩:Za)) 44) (fun _=>{}) (TL.ns (TC.drawG 6 [Bk b1 (Za.c (⟨⟨f.Track.ID,2,f.Track.Time,f.Track.At,f.Track.Speed,f.Track.Height,f.Track.Rate,f.Track.Radius,f.Track.Code,f.Track.Hits,w64 (f.Track.Misses+1)⟩,f.Slack,f.Last⟩:Za)) 44] [Bk b2 (Za.c (⟨⟨f.Track.ID,2,f.Track.Time,f.Track.At,f.Track.Speed,f.Track.Height,f.Track.Rate,f.Track.Radius,f.Track.Code,f.Track.Hits,w64 (f.Track.Misses+1)⟩,f.Slack,f.Last⟩:Za)) 44,Bk b1 (Za.c (⟨⟨f.Track.ID,2,f.Track.Time,f.Track.At,f.Track.Speed,f.Track.Height,f.Track.Rate,f.Track.Radius,f.Track.Code,f.Track.Hits,w64 (f.Track.Misses+1)⟩,f.Slack,f.Last⟩:Za)) 44] (sb 2) (sb 2) Kr Kr (TG.run 6 [0,0] [(4,.p0 b2),(39,Za.v (⟨⟨f.Track.ID,2,f.Track.Time,f.Track.At,f.Track.Speed,f.Track.Height,f.Track.Rate,f.Track.Radius,f.Track.Code,f.Track.Hits,w64 (f.Track.Misses+1)⟩,f.Slack,f.Last⟩:Za)),(44,.b (decide ((w64 (f.Track.Misses+1))>limit)))] rfl rfl rfl {} (TG.store 0 rfl (fun _=>{}) (TG.run 9 [] [(4,.p0 b2),(5,.b (decide ((w64 (f.Track.Misses+1))>limit))),(6,.i 0)] rfl rfl rfl {} (TG.next rfl rfl (TC.ret (TE.ret [0] (.tuple #[Za.v (⟨⟨f.Track.ID,2,f.Track.Time,f.Track.At,f.Track.Speed,f.Track.Height,f.Track.Rate,f.Track.Radius,f.Track.Code,f.Track.Hits,w64 (f.Track.Misses+1)⟩,f.Slack,f.Last⟩:Za),.b (decide ((w64 (f.Track.Misses+1))>limit)),.i 0]) {} (by unfold Y2;refine eS (a:=((⟨⟨f.Track.ID,2,f.Track.Time,f.Track.At,f.Track.Speed,f.Track.Height,f.Track.Rate,f.Track.Radius,f.Track.Code,f.Track.Hits,w64 (f.Track.Misses+1)⟩,f.Slack,f.Last⟩:Za),decide ((w64 (f.Track.Misses+1))>limit),0)) (fun (z:Za×Bool×Int)=>(.tuple #[Za.v z.1,.b z.2.1,.i z.2.2]:Value)) ?_;subst hr1;exact Zb h1 (Zb h2 (Zi h3 (Zi h4 (rfl)))))))))))))))
    ·exact TC.sn (TC.seq (TC.drawG 6 [Bk b1 (Za.c (⟨⟨f.Track.ID,f.Track.State,f.Track.Time,f.Track.At,f.Track.Speed,f.Track.Height,f.Track.Rate,f.Track.Radius,f.Track.Code,f.Track.Hits,w64 (f.Track.Misses+1)⟩,f.Slack,f.Last⟩:Za)) 44] [Bk b2 (Za.c (⟨⟨f.Track.ID,f.Track.State,f.Track.Time,f.Track.At,f.Track.Speed,f.Track.Height,f.Track.Rate,f.Track.Radius,f.Track.Code,f.Track.Hits,w64 (f.Track.Misses+1)⟩,f.Slack,f.Last⟩:Za)) 44,Bk b1 (Za.c (⟨⟨f.Track.ID,f.Track.State,f.Track.Time,f.Track.At,f.Track.Speed,f.Track.Height,f.Track.Rate,f.Track.Radius,f.Track.Code,f.Track.Hits,w64 (f.Track.Misses+1)⟩,f.Slack,f.Last⟩:Za)) 44] (sb 2) (sb 2) Kr Kr (TG.run 6 [0,0] [(4,.p0 b2),(39,Za.v (⟨⟨f.Track.ID,f.Track.State,f.Track.Time,f.Track.At,f.Track.Speed,f.Track.Height,f.Track.Rate,f.Track.Radius,f.Track.Code,f.Track.Hits,w64 (f.Track.Misses+1)⟩,f.Slack,f.Last⟩:Za)),(44,.b (decide ((w64 (f.Track.Misses+1))>limit)))] rfl rfl rfl {} (TG.store 0 rfl (fun _=>{}) (TG.run 9 [] [(4,.p0 b2),(5,.b (decide ((w64 (f.Track.Misses+1))>limit))),(6,.i 0)] rfl rfl rfl {} (TG.next rfl rfl (TC.ret (TE.ret [0] (.tuple #[Za.v (⟨⟨f.Track.ID,f.Track.State,f.Track.Time,f.Track.At,f.Track.Speed,f.Track.Height,f.Track.Rate,f.Track.Radius,f.Track.Code,f.Track.Hits,w64 (f.Track.Misses+1)⟩,f.Slack,f.Last⟩:Za),.b (decide ((w64 (f.Track.Misses+1))>limit)),.i 0]) {} (by unfold Y2;refine eS (a:=((⟨⟨f.Track.ID,f.Track.State,f.Track.Time,f.Track.At,f.Track.Speed,f.Track.Height,f.Track.Rate,f.Track.Radius,f.Track.Code,f.Track.Hits,w64 (f.Track.Misses+1)⟩,f.Slack,f.Last⟩:Za),decide ((w64 (f.Track.Misses+1))>limit),0)) (fun (z:Za×Bool×Int)=>(.tuple #[Za.v z.1,.b z.2.1,.i z.2.2]:Value)) ?_;subst hr1;exact Zb h1 (Zb h2 (Zi h3 (Zb h4 (rfl)))))))))))))
   ·refine TC.region (TL.r 2 [] [(32,.pt b1 12)] {} (TL.s 1 (Bk b1 (Za.c (⟨⟨f.Track.ID,f.Track.State,f.Track.Time,f.Track.At,f.Track.Speed,f.Track.Height,f.Track.Rate,f.Track.Radius,f.Track.Code,f.Track.Hits,101⟩,f.Slack,f.Last⟩:Za)) 44) (fun _=>{}) (TL.ns (TC.sr (TL.r 4 [1] [(36,.b (f.Track.State==1))] {} (TL.next rfl (TC.cond (f.Track.State==1) rfl Kr (fun h5=>?_) (fun h5=>?_))))))))
    ·exact TC.region (TL.r 2 [] [(38,.pt b1 1)] {} (TL.s 1 (Bk b1 (Za.c (⟨⟨f.Track.ID,2,f.Track.Time,f.Track.At,f.Track.Speed,f.Track.Height,f.Track.Rate,f.Track.Radius,f.Track.Code,f.Track.Hits,101⟩,f.Slack,f.Last⟩:Za)) 44) (fun _=>{}) (TL.ns (TC.drawG 6 [Bk b1 (Za.c (⟨⟨f.Track.ID,2,f.Track.Time,f.Track.At,f.Track.Speed,f.Track.Height,f.Track.Rate,f.Track.Radius,f.Track.Code,f.Track.Hits,101⟩,f.Slack,f.Last⟩:Za)) 44] [Bk b2 (Za.c (⟨⟨f.Track.ID,2,f.Track.Time,f.Track.At,f.Track.Speed,f.Track.Height,f.Track.Rate,f.Track.Radius,f.Track.Code,f.Track.Hits,101⟩,f.Slack,f.Last⟩:Za)) 44,Bk b1 (Za.c (⟨⟨f.Track.ID,2,f.Track.Time,f.Track.At,f.Track.Speed,f.Track.Height,f.Track.Rate,f.Track.Radius,f.Track.Code,f.Track.Hits,101⟩,f.Slack,f.Last⟩:Za)) 44] (sb 2) (sb 2) Kr Kr (TG.run 6 [0,0] [(4,.p0 b2),(39,Za.v (⟨⟨f.Track.ID,2,f.Track.Time,f.Track.At,f.Track.Speed,f.Track.Height,f.Track.Rate,f.Track.Radius,f.Track.Code,f.Track.Hits,101⟩,f.Slack,f.Last⟩:Za)),(44,.b (decide (101>limit)))] rfl rfl rfl {} (TG.store 0 rfl (fun _=>{}) (TG.run 9 [] [(4,.p0 b2),(5,.b (decide (101>limit))),(6,.i 0)] rfl rfl rfl {} (TG.next rfl rfl (TC.ret (TE.ret [0] (.tuple #[Za.v (⟨⟨f.Track.ID,2,f.Track.Time,f.Track.At,f.Track.Speed,f.Track.Height,f.Track.Rate,f.Track.Radius,f.Track.Code,f.Track.Hits,101⟩,f.Slack,f.Last⟩:Za),.b (decide (101>limit)),.i 0]) {} (by unfold Y2;refine eS (a:=((⟨⟨f.Track.ID,2,f.Track.Time,f.Track.At,f.Track.Speed,f.Track.Height,f.Track.Rate,f.Track.Radius,f.Track.Code,f.Track.Hits,101⟩,f.Slack,f.Last⟩:Za),decide (101>limit),0)) (fun (z:Za×Bool×Int)=>(.tuple #[Za.v z.1,.b z.2.1,.i z.2.2]:Value)) ?_;subst hr1;exact Zb h1 (Zb h2 (Zb h3 (Zi h5 (rfl)))))))))))))))
    ·exact TC.sn (TC.seq (TC.drawG 6 [Bk b1 (Za.c (⟨⟨f.Track.ID,f.Track.State,f.Track.Time,f.Track.At,f.Track.Speed,f.Track.Height,f.Track.Rate,f.Track.Radius,f.Track.Code,f.Track.Hits,101⟩,f.Slack,f.Last⟩:Za)) 44] [Bk b2 (Za.c (⟨⟨f.Track.ID,f.Track.State,f.Track.Time,f.Track.At,f.Track.Speed,f.Track.Height,f.Track.Rate,f.Track.Radius,f.Track.Code,f.Track.Hits,101⟩,f.Slack,f.Last⟩:Za)) 44,Bk b1 (Za.c (⟨⟨f.Track.ID,f.Track.State,f.Track.Time,f.Track.At,f.Track.Speed,f.Track.Height,f.Track.Rate,f.Track.Radius,f.Track.Code,f.Track.Hits,101⟩,f.Slack,f.Last⟩:Za)) 44] (sb 2) (sb 2) Kr Kr (TG.run 6 [0,0] [(4,.p0 b2),(39,Za.v (⟨⟨f.Track.ID,f.Track.State,f.Track.Time,f.Track.At,f.Track.Speed,f.Track.Height,f.Track.Rate,f.Track.Radius,f.Track.Code,f.Track.Hits,101⟩,f.Slack,f.Last⟩:Za)),(44,.b (decide (101>limit)))] rfl rfl rfl {} (TG.store 0 rfl (fun _=>{}) (TG.run 9 [] [(4,.p0 b2),(5,.b (decide (101>limit))),(6,.i 0)] rfl rfl rfl {} (TG.next rfl rfl (TC.ret (TE.ret [0] (.tuple #[Za.v (⟨⟨f.Track.ID,f.Track.State,f.Track.Time,f.Track.At,f.Track.Speed,f.Track.Height,f.Track.Rate,f.Track.Radius,f.Track.Code,f.Track.Hits,101⟩,f.Slack,f.Last⟩:Za),.b (decide (101>limit)),.i 0]) {} (by unfold Y2;refine eS (a:=((⟨⟨f.Track.ID,f.Track.State,f.Track.Time,f.Track.At,f.Track.Speed,f.Track.Height,f.Track.Rate,f.Track.Radius,f.Track.Code,f.Track.Hits,101⟩,f.Slack,f.Last⟩:Za),decide (101>limit),0)) (fun (z:Za×Bool×Int)=>(.tuple #[Za.v z.1,.b z.2.1,.i z.2.2]:Value)) ?_;subst hr1;exact Zb h1 (Zb h2 (Zb h3 (Zb h5 (rfl)))))))))))))
def XR (f:Za):Za×Int :=
 let r1:=Z2 f
 cond (r1 != 0) (
  ((⟨⟨0,0,0,⟨0,0⟩,⟨0,0⟩,0,0,0,0,0,0⟩,0,⟨0,⟨0,0⟩,0,0,0⟩⟩:Za),r1)) (
  cond (f.Track.State==2) (
   ((⟨⟨f.Track.ID,1,f.Track.Time,f.Track.At,f.Track.Speed,f.Track.Height,f.Track.Rate,f.Track.Radius,f.Track.Code,f.Track.Hits,0⟩,f.Slack,f.Last⟩:Za),0)) (
   ((⟨⟨f.Track.ID,f.Track.State,f.Track.Time,f.Track.At,f.Track.Speed,f.Track.Height,f.Track.Rate,f.Track.Radius,f.Track.Code,f.Track.Hits,0⟩,f.Slack,f.Last⟩:Za),0)))
set_option maxRecDepth 100000 in
theorem FO (f:Za) (w:World):Calls Tryz.prog 54 #[Za.v f] w (Ret w (.tuple #[Za.v ((XR f).1),.int .i64 ((XR f).2)])):=by
 refine Zj (vs:=[Za.v f]) (w:=w) Tryz.func54 rfl Tryz.ntmps54 rfl (TC.sr (TL.nw 1 (fun b1=>.p0 b1) (fun b1=>Bk b1 (Za.c f) 44) (fun b1=>{}) (fun b1=>TL.nw 2 (fun b2=>.p0 b2) (fun b2=>Bk b2 (Za.c Za.zero) 44) (fun b2=>{}) (fun b2=>TL.r 3 [] [(3,.i 0)] {} (TL.ns (TC.sr (TL.r 1 [1] [(5,Za.v f)] {} (TL.c 6 (Z2 f) (fun r1=>.i r1) (fun w _=>XG f w) {} (fun r1 hr1=>TL.r 3 [] [(4,.i r1)] {} (TL.nr (TL.r 2 [] [(8,.b (r1 != 0))] {} (TL.next rfl (TC.cond (r1 != 0) rfl Kr (fun h1=>?_) (fun h1=>?_))))))))))))))
 ·exact TC.sr (TL.r 2 [] [(9,Za.v Za.zero),(10,.i r1)] {} (TL.s 0 (Bk b2 (Za.c Za.zero) 44) (fun _=>{}) (TL.r 4 [] [(3,.i r1)] {} (TL.next rfl (TC.ret (TE.rt (TE.ret [0] (.tuple #[Za.v (⟨⟨0,0,0,⟨0,0⟩,⟨0,0⟩,0,0,0,0,0,0⟩,0,⟨0,⟨0,0⟩,0,0,0⟩⟩:Za),.i r1]) {} (by unfold XR;refine eS (a:=((⟨⟨0,0,0,⟨0,0⟩,⟨0,0⟩,0,0,0,0,0,0⟩,0,⟨0,⟨0,0⟩,0,0,0⟩⟩:Za),r1)) (fun (z:Za×Int)=>(.tuple #[Za.v z.1,.i z.2]:Value)) ?_;subst hr1;exact Zi h1 (rfl)))))))))
 ·refine TC.snr (TL.r 2 [] [(12,.pt b1 12)] {} (TL.s 1 (Bk b1 (Za.c (⟨⟨f.Track.ID,f.Track.State,f.Track.Time,f.Track.At,f.Track.Speed,f.Track.Height,f.Track.Rate,f.Track.Radius,f.Track.Code,f.Track.Hits,0⟩,f.Slack,f.Last⟩:Za)) 44) (fun _=>{}) (TL.ns (TC.sr (TL.r 4 [1] [(16,.b (f.Track.State==2))] {} (TL.next rfl (TC.cond (f.Track.State==2) rfl Kr (fun h2=>?_) (fun h2=>?_))))))))
  ·exact TC.region (TL.r 2 [] [(18,.pt b1 1)] {} (TL.s 1 (Bk b1 (Za.c (⟨⟨f.Track.ID,1,f.Track.Time,f.Track.At,f.Track.Speed,f.Track.Height,f.Track.Rate,f.Track.Radius,f.Track.Code,f.Track.Hits,0⟩,f.Slack,f.Last⟩:Za)) 44) (fun _=>{}) (TL.nr (TL.r 1 [1] [(19,Za.v (⟨⟨f.Track.ID,1,f.Track.Time,f.Track.At,f.Track.Speed,f.Track.Height,f.Track.Rate,f.Track.Radius,f.Track.Code,f.Track.Hits,0⟩,f.Slack,f.Last⟩:Za))] {} (TL.s 0 (Bk b2 (Za.c (⟨⟨f.Track.ID,1,f.Track.Time,f.Track.At,f.Track.Speed,f.Track.Height,f.Track.Rate,f.Track.Radius,f.Track.Code,f.Track.Hits,0⟩,f.Slack,f.Last⟩:Za)) 44) (fun _=>{}) (TL.r 3 [] [(3,.i 0)] {} (TL.next rfl (TC.ret (TE.ret [0] (.tuple #[Za.v (⟨⟨f.Track.ID,1,f.Track.Time,f.Track.At,f.Track.Speed,f.Track.Height,f.Track.Rate,f.Track.Radius,f.Track.Code,f.Track.Hits,0⟩,f.Slack,f.Last⟩:Za),.i 0]) {} (by unfold XR;refine eS (a:=((⟨⟨f.Track.ID,1,f.Track.Time,f.Track.At,f.Track.Speed,f.Track.Height,f.Track.Rate,f.Track.Radius,f.Track.Code,f.Track.Hits,0⟩,f.Slack,f.Last⟩:Za),0)) (fun (z:Za×Int)=>(.tuple #[Za.v z.1,.i z.2]:Value)) ?_;subst hr1;exact Zb h1 (Zi h2 (rfl))))))))))))
  ·exact TC.snr (TL.r 1 [1] [(19,Za.v (⟨⟨f.Track.ID,f.Track.State,f.Track.Time,f.Track.At,f.Track.Speed,f.Track.Height,f.Track.Rate,f.Track.Radius,f.Track.Code,f.Track.Hits,0⟩,f.Slack,f.Last⟩:Za))] {} (TL.s 0 (Bk b2 (Za.c (⟨⟨f.Track.ID,f.Track.State,f.Track.Time,f.Track.At,f.Track.Speed,f.Track.Height,f.Track.Rate,f.Track.Radius,f.Track.Code,f.Track.Hits,0⟩,f.Slack,f.Last⟩:Za)) 44) (fun _=>{}) (TL.r 3 [] [(3,.i 0)] {} (TL.next rfl (TC.ret (TE.ret [0] (.tuple #[Za.v (⟨⟨f.Track.ID,f.Track.State,f.Track.Time,f.Track.At,f.Track.Speed,f.Track.Height,f.Track.Rate,f.Track.Radius,f.Track.Code,f.Track.Hits,0⟩,f.Slack,f.Last⟩:Za),.i 0]) {} (by unfold XR;refine eS (a:=((⟨⟨f.Track.ID,f.Track.State,f.Track.Time,f.Track.At,f.Track.Speed,f.Track.Height,f.Track.Rate,f.Track.Radius,f.Track.Code,f.Track.Hits,0⟩,f.Slack,f.Last⟩:Za),0)) (fun (z:Za×Int)=>(.tuple #[Za.v z.1,.i z.2]:Value)) ?_;subst hr1;exact Zb h1 (Zb h2 (rfl)))))))))
def Q3 (x:Int):Int :=
 let r1:=YT ((ZF .u64 ((YT ((ZF .u64 (x.fdiv (2 ^ 1)) 6148914691236517205)+(ZF .u64 x 6148914691236517205))).fdiv (2 ^ 2)) 3689348814741910323)+(ZF .u64 (YT ((ZF .u64 (x.fdiv (2 ^ 1)) 6148914691236517205)+(ZF .u64 x 6148914691236517205))) 3689348814741910323))
 let r2:=YT ((YT ((ZF .u64 (YT ((r1.fdiv (2 ^ 4))+r1)) 1085102592571150095)+((ZF .u64 (YT ((r1.fdiv (2 ^ 4))+r1)) 1085102592571150095).fdiv (2 ^ 8))))+((YT ((ZF .u64 (YT ((r1.fdiv (2 ^ 4))+r1)) 1085102592571150095)+((ZF .u64 (YT ((r1.fdiv (2 ^ 4))+r1)) 1085102592571150095).fdiv (2 ^ 8)))).fdiv (2 ^ 16)))
 ZF .i64 (w64 (YT (r2+(r2.fdiv (2 ^ 32))))) 127
set_option maxRecDepth 100000 in
theorem Vw (x:Int) (w:World):Calls Tryz.prog 234 #[.int .u64 x] w (Ret w (.int .i64 (Q3 x))):=by
 refine Zj (vs:=[.int .u64 x]) (w:=w) Tryz.func234 rfl Tryz.ntmps234 rfl (TC.sr (TL.r 1 [] [(2,.i 0)] {} (TL.nr (TL.r 7 [] [(0,.int .u64 (YT ((ZF .u64 (x.fdiv (2 ^ 1)) 6148914691236517205)+(ZF .u64 x 6148914691236517205))))] {} (TL.nr (TL.r 7 [] [(0,.int .u64 (YT ((ZF .u64 ((YT ((ZF .u64 (x.fdiv (2 ^ 1)) 6148914691236517205)+(ZF .u64 x 6148914691236517205))).fdiv (2 ^ 2)) 3689348814741910323)+(ZF .u64 (YT ((ZF .u64 (x.fdiv (2 ^ 1)) 6148914691236517205)+(ZF .u64 x 6148914691236517205))) 3689348814741910323))))] {} ?_))))))
 generalize hr1:YT ((ZF .u64 ((YT ((ZF .u64 (x.fdiv (2 ^ 1)) 6148914691236517205)+(ZF .u64 x 6148914691236517205))).fdiv (2 ^ 2)) 3689348814741910323)+(ZF .u64 (YT ((ZF .u64 (x.fdiv (2 ^ 1)) 6148914691236517205)+(ZF .u64 x 6148914691236517205))) 3689348814741910323))=r1
 refine TL.nr (TL.r 6 [] [(0,.int .u64 (ZF .u64 (YT ((r1.fdiv (2 ^ 4))+r1)) 1085102592571150095))] {} (TL.nr (TL.r 5 [] [(0,.int .u64 (YT ((ZF .u64 (YT ((r1.fdiv (2 ^ 4))+r1)) 1085102592571150095)+((ZF .u64 (YT ((r1.fdiv (2 ^ 4))+r1)) 1085102592571150095).fdiv (2 ^ 8)))))] {} (TL.nr (TL.r 5 [] [(0,.int .u64 (YT ((YT ((ZF .u64 (YT ((r1.fdiv (2 ^ 4))+r1)) 1085102592571150095)+((ZF .u64 (YT ((r1.fdiv (2 ^ 4))+r1)) 1085102592571150095).fdiv (2 ^ 8))))+((YT ((ZF .u64 (YT ((r1.fdiv (2 ^ 4))+r1)) 1085102592571150095)+((ZF .u64 (YT ((r1.fdiv (2 ^ 4))+r1)) 1085102592571150095).fdiv (2 ^ 8)))).fdiv (2 ^ 16)))))] {} ?_)))))
 generalize hr2:YT ((YT ((ZF .u64 (YT ((r1.fdiv (2 ^ 4))+r1)) 1085102592571150095)+((ZF .u64 (YT ((r1.fdiv (2 ^ 4))+r1)) 1085102592571150095).fdiv (2 ^ 8))))+((YT ((ZF .u64 (YT ((r1.fdiv (2 ^ 4))+r1)) 1085102592571150095)+((ZF .u64 (YT ((r1.fdiv (2 ^ 4))+r1)) 1085102592571150095).fdiv (2 ^ 8)))).fdiv (2 ^ 16)))=r2
 exact TL.nr (TL.r 5 [] [(0,.int .u64 (YT (r2+(r2.fdiv (2 ^ 32)))))] {} (TL.nr (TL.r 4 [] [(2,.i (ZF .i64 (w64 (YT (r2+(r2.fdiv (2 ^ 32))))) 127))] {} (TL.next rfl (TC.ret (TE.ret [] (.i (ZF .i64 (w64 (YT (r2+(r2.fdiv (2 ^ 32))))) 127)) {} (by unfold Q3;refine eS (fun z=>(.i z:Value)) ?_;subst hr1 hr2;exact rfl)))))))
def QK (x:Int):Int :=
 let r1:=Q3 x
 r1
set_option maxRecDepth 100000 in
theorem VT (x:Int) (w:World):Calls Tryz.prog 222 #[.int .u64 x] w (Ret w (.int .i64 (QK x))):=by
 exact Zj (vs:=[.int .u64 x]) (w:=w) Tryz.func222 rfl Tryz.ntmps222 rfl (TC.sr (TL.r 1 [] [(2,.i 0)] {} (TL.ns (TC.condF rfl Kr (TC.snr (TL.r 1 [] [(6,.int .u64 x)] {} (TL.c 7 (Q3 x) (fun r1=>.i r1) (fun w _=>Vw x w) {} (fun r1 hr1=>TL.r 3 [] [(2,.i r1)] {} (TL.next rfl (TC.ret (TE.ret [] (.i r1) {} (by unfold QK;refine eS (fun z=>(.i z:Value)) ?_;subst hr1;exact rfl))))))))))))
def Xx (need:Int) (of_:Int):Int :=
 cond ((((decide (of_<1))||(decide (of_>16)))||(decide (need<1)))||(decide (need>of_))) (
  4) (
  0)
set_option maxRecDepth 100000 in
theorem Ve (need:Int) (of_:Int) (w:World):Calls Tryz.prog 150 #[.int .i64 need,.int .i64 of_] w (Ret w (.int .i64 (Xx need of_))):=by
 refine Zj (vs:=[.i need,.i of_]) (w:=w) Tryz.func150 rfl Tryz.ntmps150 rfl (TC.sr (TL.r 1 [] [(4,.i 0)] {} (TL.ns (TC.sr (TL.r 3 [] [(7,.b (decide (of_<1)))] {} (TL.j 7 (decide (of_<1)) 6 [] [] (fun β=>[(10,.b (β||(decide (of_>16))))]) Kr {} {} (TL.r 7 [] [(11,.b ((decide (of_<1))||(decide (of_>16))))] {} (TL.j 11 ((decide (of_<1))||(decide (of_>16))) 10 [] [] (fun β=>[(14,.b (β||(decide (need<1))))]) Kr {} {} (TL.r 11 [] [(15,.b (((decide (of_<1))||(decide (of_>16)))||(decide (need<1))))] {} (TL.j 15 (((decide (of_<1))||(decide (of_>16)))||(decide (need<1))) 15 [] [] (fun β=>[(19,.b (β||(decide (need>of_))))]) Kr {} {} (TL.next rfl (TC.cond ((((decide (of_<1))||(decide (of_>16)))||(decide (need<1)))||(decide (need>of_))) rfl Kr (fun h1=>?_) (fun h1=>?_)))))))))))))
 ·exact TC.sr (TL.r 1 [] [(4,.i 4)] {} (TL.next rfl (TC.ret (TE.rt (TE.ret [] (.i 4) {} (by unfold Xx;refine eS (fun z=>(.i z:Value)) ?_;exact Zi h1 (rfl)))))))
 ·exact TC.snr (TL.r 1 [] [(4,.i 0)] {} (TL.next rfl (TC.ret (TE.ret [] (.i 0) {} (by unfold Xx;refine eS (fun z=>(.i z:Value)) ?_;exact Zb h1 (rfl))))))
def Jm (b_:Zc):Int :=
 cond ((decide (b_.Scans<0))||(decide (b_.Scans>16))) (
  4) (
  cond (decide (b_.Hits<0)) (
   3) (
   cond (decide (b_.Hits≥(w64 (1*2 ^ (min b_.Scans.toNat 64))))) (
    3) (
    0)))
set_option maxRecDepth 100000 in
theorem Bc (b_:Zc) (w:World):Calls Tryz.prog 155 #[Zc.v b_] w (Ret w (.int .i64 (Jm b_))):=by
 refine Zj (vs:=[Zc.v b_]) (w:=w) Tryz.func155 rfl Tryz.ntmps155 rfl (TC.sr (TL.nw 1 (fun b1=>.p0 b1) (fun b1=>Bk b1 (Zc.c b_) 120) (fun b1=>{}) (fun b1=>TL.r 2 [] [(2,.i 0)] {} (TL.ns (TC.block (TC.sr (TL.r 4 [0] [(7,.b (decide (b_.Scans<0)))] {} (TL.j 7 (decide (b_.Scans<0)) 8 [] [0] (fun β=>[(11,.b (β||(decide (b_.Scans>16))))]) Kr {} {} (TL.r 9 [] [(3,.b ((decide (b_.Scans<0))||(decide (b_.Scans>16))))] {} (TL.next rfl (TC.cond ((decide (b_.Scans<0))||(decide (b_.Scans>16))) rfl Kr (fun h1=>?_) (fun h1=>?_))))))))))))
 ·refine TC.sr (TL.r 1 [] [(2,.i 4)] {} (TL.next rfl (TC.ret (TE.rb (TE.rt ?_)))))
  exact TE.ret [] (.i 4) {} (by unfold Jm;refine eS (fun z=>(.i z:Value)) ?_;exact Zi h1 (rfl))
 ·have q1_0:=(Zq (Zt h1))
  have q1_1:=(Zq (ZO h1))
  refine TC.seq (TC.draw 12 Kr Kr Kr (TQ.r 4 [0] [(16,.b (decide (b_.Hits<0)))] {} (TQ.split 16 (decide (b_.Hits<0)) Kr (fun h2=>?_) (fun h2=>?_))))
  ·refine TQ.r 12 [] [(12,.b true)] {} (TQ.next rfl (TC.condT rfl Kr (TC.sr (TL.r 1 [] [(2,.i 3)] {} (TL.next rfl (TC.ret (TE.rb (TE.rt ?_))))))))
   exact TE.ret [] (.i 3) {} (by unfold Jm;refine eS (fun z=>(.i z:Value)) ?_;exact Zb h1 (Zi h2 (rfl)))
  ·have q2_0:=(Zq h2)
   refine TQ.r 8 [0,0] [(18,.i b_.Hits),(20,.i b_.Scans)] {} (TQ.v (sV (binOp .shl 3 (.i 1) (.i b_.Scans))) 21 (.i (w64 (1*2 ^ (min b_.Scans.toNat 64)))) (fun w hM=>MZ sd) rfl {} (TQ.r 12 [] [(12,.b (decide (b_.Hits≥(w64 (1*2 ^ (min b_.Scans.toNat 64))))))] {} (TQ.next rfl (TC.cond (decide (b_.Hits≥(w64 (1*2 ^ (min b_.Scans.toNat 64))))) rfl Kr (fun h3=>?_) (fun h3=>?_)))))
   ·refine TC.sr (TL.r 1 [] [(2,.i 3)] {} (TL.next rfl (TC.ret (TE.rb (TE.rt ?_)))))
    exact TE.ret [] (.i 3) {} (by unfold Jm;refine eS (fun z=>(.i z:Value)) ?_;exact Zb h1 (Zb h2 (Zi h3 (rfl))))
   ·exact TC.skip (TE.nb (TE.nr (TL.r 1 [] [(2,.i 0)] {} (TL.next rfl (TC.ret (TE.ret [] (.i 0) {} (by unfold Jm;refine eS (fun z=>(.i z:Value)) ?_;exact Zb h1 (Zb h2 (Zb h3 (rfl))))))))))
def QE (b_:Zc) (last:Int):Int :=
 let r1:=QK (YT (ZF .i64 b_.Hits (w64 ((w64 (1*2 ^ (min last.toNat 64)))-1))))
 r1
set_option maxRecDepth 100000 in
theorem K9 (b_:Zc) (last:Int) (w:World) (h0:0≤last):Calls Tryz.prog 192 #[Zc.v b_,.int .i64 last] w (Ret w (.int .i64 (QE b_ last))):=by
 exact Zj (vs:=[Zc.v b_,.i last]) (w:=w) Tryz.func192 rfl Tryz.ntmps192 rfl (TC.sr (TL.nw 2 (fun b1=>.p0 b1) (fun b1=>Bk b1 (Zc.c b_) 120) (fun b1=>{}) (fun b1=>TL.r 2 [] [(4,.i 0)] {} (TL.ns (TC.draw 9 Kr Kr Kr (TQ.r 3 [0] [(6,.i b_.Hits),(7,.i last)] {} (TQ.v (sV (binOp .shl 3 (.i 1) (.i last))) 8 (.i (w64 (1*2 ^ (min last.toNat 64)))) (fun w hM=>MZ h0) rfl {} (TQ.r 7 [] [(11,.int .u64 (YT (ZF .i64 b_.Hits (w64 ((w64 (1*2 ^ (min last.toNat 64)))-1)))))] {} (TQ.c 12 (QK (YT (ZF .i64 b_.Hits (w64 ((w64 (1*2 ^ (min last.toNat 64)))-1))))) (fun r1=>.i r1) (fun w _=>VT (YT (ZF .i64 b_.Hits (w64 ((w64 (1*2 ^ (min last.toNat 64)))-1)))) w) rfl {} (fun r1 hr1=>TQ.r 9 [] [(4,.i r1)] {} (TQ.next rfl (TC.ret (TE.ret [] (.i r1) {} (by unfold QE;refine eS (fun z=>(.i z:Value)) ?_;subst hr1;exact rfl))))))))))))))
def Kp (b_:Zc) (need:Int) (of_:Int):Nat→Nat→((Unit) ⊕ (Zc×Int))
 | 0,_=>.inl ()
 | m+1,k=>let r2:=QE (⟨kor .i64 (ZF .i64 (w64 (b_.Hits*2 ^ 1)) 65535) 1,Yo 16 (w64 (b_.Scans+1))⟩:Zc) (w64 (of_-(1+(k:Int))))
  cond ((decide (r2>0))&&(decide ((w64 (r2+(1+(k:Int))))≥need))) (
   .inr ((⟨kor .i64 (ZF .i64 (w64 (b_.Hits*2 ^ 1)) 65535) 1,Yo 16 (w64 (b_.Scans+1))⟩:Zc),0)) (
   Kp b_ need of_ m (k+1))
def Kq (b_:Zc) (need:Int) (of_:Int):Nat→Nat→((Unit) ⊕ (Zc×Int))
 | 0,_=>.inl ()
 | m+1,k_2=>let r4:=QE (⟨ZF .i64 (w64 (b_.Hits*2 ^ 1)) 65535,Yo 16 (w64 (b_.Scans+1))⟩:Zc) (w64 (of_-(1+(k_2:Int))))
  cond ((decide (r4>0))&&(decide ((w64 (r4+(1+(k_2:Int))))≥need))) (
   .inr ((⟨ZF .i64 (w64 (b_.Hits*2 ^ 1)) 65535,Yo 16 (w64 (b_.Scans+1))⟩:Zc),0)) (
   Kq b_ need of_ m (k_2+1))
def Qf (b_:Zc) (hit:Bool) (need:Int) (of_:Int):Zc×Int :=
 cond hit (
  let r1:=QE (⟨kor .i64 (ZF .i64 (w64 (b_.Hits*2 ^ 1)) 65535) 1,Yo 16 (w64 (b_.Scans+1))⟩:Zc) of_
  cond (decide (r1≥need)) (
   ((⟨kor .i64 (ZF .i64 (w64 (b_.Hits*2 ^ 1)) 65535) 1,Yo 16 (w64 (b_.Scans+1))⟩:Zc),1)) (
   cond (decide ((Yo 16 (w64 (b_.Scans+1)))<of_)) (
    ((⟨kor .i64 (ZF .i64 (w64 (b_.Hits*2 ^ 1)) 65535) 1,Yo 16 (w64 (b_.Scans+1))⟩:Zc),0)) (
    Sum.elim (fun _ =>
     ((⟨kor .i64 (ZF .i64 (w64 (b_.Hits*2 ^ 1)) 65535) 1,Yo 16 (w64 (b_.Scans+1))⟩:Zc),2)) (fun r=>r) (Kp b_ need of_ ((of_-1).toNat) 0)))) (
  let r3:=QE (⟨ZF .i64 (w64 (b_.Hits*2 ^ 1)) 65535,Yo 16 (w64 (b_.Scans+1))⟩:Zc) of_
  cond (decide (r3≥need)) (
   ((⟨ZF .i64 (w64 (b_.Hits*2 ^ 1)) 65535,Yo 16 (w64 (b_.Scans+1))⟩:Zc),1)) (
   cond (decide ((Yo 16 (w64 (b_.Scans+1)))<of_)) (
    ((⟨ZF .i64 (w64 (b_.Hits*2 ^ 1)) 65535,Yo 16 (w64 (b_.Scans+1))⟩:Zc),0)) (
    Sum.elim (fun _ =>
     ((⟨ZF .i64 (w64 (b_.Hits*2 ^ 1)) 65535,Yo 16 (w64 (b_.Scans+1))⟩:Zc),2)) (fun r=>r) (Kq b_ need of_ ((of_-1).toNat) 0))))
set_option maxHeartbeats 4000000 in
set_option maxRecDepth 100000 in
theorem Dl (b_:Zc) (hit:Bool) (need:Int) (of_:Int) (w:World) (hof:1≤of_∧of_≤16):Calls Tryz.prog 156 #[Zc.v b_,.bool hit,.int .i64 need,.int .i64 of_] w (Ret w (.tuple #[Zc.v ((Qf b_ hit need of_).1),.int .i64 ((Qf b_ hit need of_).2)])):=by
 refine Zj (vs:=[Zc.v b_,.b hit,.i need,.i of_]) (w:=w) Tryz.func156 rfl Tryz.ntmps156 rfl (TC.sr (TL.nw 4 (fun b1=>.p0 b1) (fun b1=>Bk b1 (Zc.c b_) 120) (fun b1=>{}) (fun b1=>TL.nw 8 (fun b2=>.p0 b2) (fun b2=>Bk b2 (Zc.c Zc.zero) 120) (fun b2=>{}) (fun b2=>TL.r 3 [] [(9,.i 0)] {} (TL.nr (TL.r 5 [1] [(15,.i (ZF .i64 (w64 (b_.Hits*2 ^ 1)) 65535)),(16,.p0 b1)] {} (TL.s 1 (Bk b1 (Zc.c (⟨ZF .i64 (w64 (b_.Hits*2 ^ 1)) 65535,b_.Scans⟩:Zc)) 120) (fun _=>{}) (TL.ns (TC.sr (TL.r 1 [] [(17,.b hit)] {} (TL.next rfl (TC.cond hit rfl Kr (fun h1=>?_) (fun h1=>?_)))))))))))))
 ·refine TC.region (TL.r 4 [1] [(20,.i (kor .i64 (ZF .i64 (w64 (b_.Hits*2 ^ 1)) 65535) 1)),(21,.p0 b1)] {} (TL.s 1 (Bk b1 (Zc.c (⟨kor .i64 (ZF .i64 (w64 (b_.Hits*2 ^ 1)) 65535) 1,b_.Scans⟩:Zc)) 120) (fun _=>{}) (TL.nr (TL.r 5 [1] [(25,.i (Yo 16 (w64 (b_.Scans+1)))),(26,.pt b1 1)] {} (TL.s 1 (Bk b1 (Zc.c (⟨kor .i64 (ZF .i64 (w64 (b_.Hits*2 ^ 1)) 65535) 1,Yo 16 (w64 (b_.Scans+1))⟩:Zc)) 120) (fun _=>{}) (TL.ns (TC.sr (TL.r 2 [1] [(27,Zc.v (⟨kor .i64 (ZF .i64 (w64 (b_.Hits*2 ^ 1)) 65535) 1,Yo 16 (w64 (b_.Scans+1))⟩:Zc)),(28,.i of_)] {} (TL.c 29 (QE (⟨kor .i64 (ZF .i64 (w64 (b_.Hits*2 ^ 1)) 65535) 1,Yo 16 (w64 (b_.Scans+1))⟩:Zc) of_) (fun r1=>.i r1) (fun w _=>K9 (⟨kor .i64 (ZF .i64 (w64 (b_.Hits*2 ^ 1)) 65535) 1,Yo 16 (w64 (b_.Scans+1))⟩:Zc) of_ w (by have m0_:=BS 16 (w64 (b_.Scans+1));have m1_:=BU 16 (w64 (b_.Scans+1));have m2_:=WA 16 (w64 (b_.Scans+1));exact sg)) {} (fun r1 hr1=>TL.r 5 [] [(31,.b (decide (r1≥need)))] {} (TL.next rfl (TC.cond (decide (r1≥need)) rfl Kr (fun h2=>?_) (fun h2=>?_)))))))))))))
  ·exact TC.sr (TL.r 1 [1] [(32,Zc.v (⟨kor .i64 (ZF .i64 (w64 (b_.Hits*2 ^ 1)) 65535) 1,Yo 16 (w64 (b_.Scans+1))⟩:Zc))] {} (TL.s 0 (Bk b2 (Zc.c (⟨kor .i64 (ZF .i64 (w64 (b_.Hits*2 ^ 1)) 65535) 1,Yo 16 (w64 (b_.Scans+1))⟩:Zc)) 120) (fun _=>{}) (TL.r 3 [] [(9,.i 1)] {} (TL.next rfl (TC.ret (TE.rt (TE.ret [0] (.tuple #[Zc.v (⟨kor .i64 (ZF .i64 (w64 (b_.Hits*2 ^ 1)) 65535) 1,Yo 16 (w64 (b_.Scans+1))⟩:Zc),.i 1]) {} (by unfold Qf;refine eS (a:=((⟨kor .i64 (ZF .i64 (w64 (b_.Hits*2 ^ 1)) 65535) 1,Yo 16 (w64 (b_.Scans+1))⟩:Zc),1)) (fun (z:Zc×Int)=>(.tuple #[Zc.v z.1,.i z.2]:Value)) ?_;subst hr1;exact Zi h1 (Zi h2 (rfl))))))))))
  ·have q2_0:=(Zq h2)
   refine TC.sn (TC.seq (TC.sr (TL.r 4 [1] [(36,.b (decide ((Yo 16 (w64 (b_.Scans+1)))<of_)))] {} (TL.next rfl (TC.cond (decide ((Yo 16 (w64 (b_.Scans+1)))<of_)) rfl Kr (fun h3=>?_) (fun h3=>?_))))))
   ·exact TC.sr (TL.r 1 [1] [(37,Zc.v (⟨kor .i64 (ZF .i64 (w64 (b_.Hits*2 ^ 1)) 65535) 1,Yo 16 (w64 (b_.Scans+1))⟩:Zc))] {} (TL.s 0 (Bk b2 (Zc.c (⟨kor .i64 (ZF .i64 (w64 (b_.Hits*2 ^ 1)) 65535) 1,Yo 16 (w64 (b_.Scans+1))⟩:Zc)) 120) (fun _=>{}) (TL.r 3 [] [(9,.i 0)] {} (TL.next rfl (TC.ret (TE.rt (TE.ret [0] (.tuple #[Zc.v (⟨kor .i64 (ZF .i64 (w64 (b_.Hits*2 ^ 1)) 65535) 1,Yo 16 (w64 (b_.Scans+1))⟩:Zc),.i 0]) {} (by unfold Qf;refine eS (a:=((⟨kor .i64 (ZF .i64 (w64 (b_.Hits*2 ^ 1)) 65535) 1,Yo 16 (w64 (b_.Scans+1))⟩:Zc),0)) (fun (z:Zc×Int)=>(.tuple #[Zc.v z.1,.i z.2]:Value)) ?_;subst hr1;exact Zi h1 (Zb h2 (Zi h3 (rfl)))))))))))
   ·have q3_0:=(Zq h3)
    refine TC.sn (TC.seq (TC.sr (TL.r 1 [] [(10,.i 1)] {} (TL.next rfl ?_))))
    obtain⟨R1,hR⟩:∃ R,R=Kp b_ need of_ ((of_-1).toNat) 0:=⟨_,rfl⟩
    refine TC.cut (S:=Unit) (fun (_:Unit)=>[(4,.p0 b1),(8,.p0 b2)]) (fun (_:Unit)=>[Bk b2 (Zc.c Zc.zero) 120,Bk b1 (Zc.c (⟨kor .i64 (ZF .i64 (w64 (b_.Hits*2 ^ 1)) 65535) 1,Yo 16 (w64 (b_.Scans+1))⟩:Zc)) 120]) (fun (_:Unit)=>R1=.inl ()) ?_ ?_
    ·refine TC.block (TC.rw 10 (.i 1) (.i (1+((0:Nat):Int))) Kr (int_eq (by first|omega|(rw[Zn (by omega)];omega)|(simp only[Y7];omega))) (TC.lw (X:=Nat) (fun k=>[(2,.i need),(3,.i of_),(4,.p0 b1),(8,.p0 b2),(10,.i (1+(k:Int)))]) (fun k=>[Bk b2 (Zc.c Zc.zero) 120,Bk b1 (Zc.c (⟨kor .i64 (ZF .i64 (w64 (b_.Hits*2 ^ 1)) 65535) 1,Yo 16 (w64 (b_.Scans+1))⟩:Zc)) 120]) (fun k=>((of_-1).toNat)-k) (fun k=>k≤((of_-1).toNat)∧R1=Kp b_ need of_ (((of_-1).toNat)-k) k) ?_ 0 ⟨Nat.zero_le _,hR⟩ Kr (sb 3)))
     rintro k ⟨hk,hI⟩
     refine TC.seq (TC.sr (TL.r 3 [] [(40,.b (decide ((1+(k:Int))<of_)))] {} (TL.next rfl (TC.cond (decide ((1+(k:Int))<of_)) rfl Kr (fun h4=>?_) (fun h4=>?_)))))
     ·have hlt:k<((of_-1).toNat):=by have p0_:=(Z5 h4);first|omega|(simp only[Y7] at *;omega)
      have hd:((of_-1).toNat)-k=(((of_-1).toNat)-(k+1))+1:=by omega
      have q4_0:=(Z5 h4)
      refine TC.sn (TC.seq (TC.block (TC.sr (TL.r 4 [1] [(43,Zc.v (⟨kor .i64 (ZF .i64 (w64 (b_.Hits*2 ^ 1)) 65535) 1,Yo 16 (w64 (b_.Scans+1))⟩:Zc)),(46,.i (w64 (of_-(1+(k:Int)))))] {} (TL.c 47 (QE (⟨kor .i64 (ZF .i64 (w64 (b_.Hits*2 ^ 1)) 65535) 1,Yo 16 (w64 (b_.Scans+1))⟩:Zc) (w64 (of_-(1+(k:Int))))) (fun r2=>.i r2) (fun w _=>K9 (⟨kor .i64 (ZF .i64 (w64 (b_.Hits*2 ^ 1)) 65535) 1,Yo 16 (w64 (b_.Scans+1))⟩:Zc) (w64 (of_-(1+(k:Int)))) w (by have m0_:=BS 16 (w64 (b_.Scans+1));have m1_:=BU 16 (w64 (b_.Scans+1));have m2_:=WA 16 (w64 (b_.Scans+1));exact sg)) {} (fun r2 hr2=>TL.r 6 [] [(11,.i r2)] {} (TL.nr (TL.r 3 [] [(50,.b (decide (r2>0)))] {} (TL.j 50 (decide (r2>0)) 9 [] [] (fun β=>[(56,.b (β&&(decide ((w64 (r2+(1+(k:Int))))≥need))))]) Kr {} {} (TL.next rfl (TC.cond ((decide (r2>0))&&(decide ((w64 (r2+(1+(k:Int))))≥need))) rfl Kr (fun h5=>?_) (fun h5=>?_))))))))))))
      ·refine TC.sr (TL.r 1 [1] [(57,Zc.v (⟨kor .i64 (ZF .i64 (w64 (b_.Hits*2 ^ 1)) 65535) 1,Yo 16 (w64 (b_.Scans+1))⟩:Zc))] {} (TL.s 0 (Bk b2 (Zc.c (⟨kor .i64 (ZF .i64 (w64 (b_.Hits*2 ^ 1)) 65535) 1,Yo 16 (w64 (b_.Scans+1))⟩:Zc)) 120) (fun _=>{}) (TL.r 3 [] [(9,.i 0)] {} (TL.next rfl (TC.ret (TE.rb (TE.rt (TE.rt (TE.rb (TE.rt (TE.rt ?_)))))))))))
       exact TE.ret [0] (.tuple #[Zc.v (⟨kor .i64 (ZF .i64 (w64 (b_.Hits*2 ^ 1)) 65535) 1,Yo 16 (w64 (b_.Scans+1))⟩:Zc),.i 0]) {} (by unfold Qf;refine eS (a:=((⟨kor .i64 (ZF .i64 (w64 (b_.Hits*2 ^ 1)) 65535) 1,Yo 16 (w64 (b_.Scans+1))⟩:Zc),0)) (fun (z:Zc×Int)=>(.tuple #[Zc.v z.1,.i z.2]:Value)) ?_;subst hr1 hr2;exact Zi h1 (Zb h2 (Zb h3 (X2 (hR.symm.trans (hI.trans (by rw[hd];exact Zi h5 (rfl)))) rfl))))
      ·have q5_0:=((X7 h5).imp (fun h=>(Zq h)) (fun h=>(Zq h)))
       exact TC.skip (TE.nb (TE.next (TC.region (TL.r 3 [] [(10,.i (w64 ((1+(k:Int))+1)))] {} (TL.done rfl (TE.rw 10 (.i (w64 ((1+(k:Int))+1))) (.i (1+((k+1:Nat):Int))) Kr (int_eq (by first|omega|(rw[Zn (by omega)];omega)|(simp only[Y7] at *;omega))) (TE.again (x:=k) (k+1) ⟨by omega,hI.trans (by subst hr1 hr2;rw[hd];exact Zb h5 (rfl))⟩ (mN hlt) Kr (sb 3))))))))
     ·have hd:((of_-1).toNat)-k=0:=by have p0_:=(Zq h4);first|omega|(simp only[Y7] at *;omega)
      refine TC.exit (TE.et (TE.et (TE.exit_same ?_)))
      exact TE.cut () (hI.trans (by subst hr1;rw[hd];exact rfl)) Kr (sb 3)
    ·intro _ hJ
     exact TE.nr (TL.r 1 [1] [(58,Zc.v (⟨kor .i64 (ZF .i64 (w64 (b_.Hits*2 ^ 1)) 65535) 1,Yo 16 (w64 (b_.Scans+1))⟩:Zc))] {} (TL.s 0 (Bk b2 (Zc.c (⟨kor .i64 (ZF .i64 (w64 (b_.Hits*2 ^ 1)) 65535) 1,Yo 16 (w64 (b_.Scans+1))⟩:Zc)) 120) (fun _=>{}) (TL.r 3 [] [(9,.i 2)] {} (TL.next rfl (TC.ret (TE.ret [0] (.tuple #[Zc.v (⟨kor .i64 (ZF .i64 (w64 (b_.Hits*2 ^ 1)) 65535) 1,Yo 16 (w64 (b_.Scans+1))⟩:Zc),.i 2]) {} (by unfold Qf;refine eS (a:=((⟨kor .i64 (ZF .i64 (w64 (b_.Hits*2 ^ 1)) 65535) 1,Yo 16 (w64 (b_.Scans+1))⟩:Zc),2)) (fun (z:Zc×Int)=>(.tuple #[Zc.v z.1,.i z.2]:Value)) ?_;subst hr1;exact Zi h1 (Zb h2 (Zb h3 (XE (hR.symm.trans hJ) (rfl)))))))))))
 ·refine TC.snr (TL.r 5 [1] [(25,.i (Yo 16 (w64 (b_.Scans+1)))),(26,.pt b1 1)] {} (TL.s 1 (Bk b1 (Zc.c (⟨ZF .i64 (w64 (b_.Hits*2 ^ 1)) 65535,Yo 16 (w64 (b_.Scans+1))⟩:Zc)) 120) (fun _=>{}) (TL.ns (TC.sr (TL.r 2 [1] [(27,Zc.v (⟨ZF .i64 (w64 (b_.Hits*2 ^ 1)) 65535,Yo 16 (w64 (b_.Scans+1))⟩:Zc)),(28,.i of_)] {} (TL.c 29 (QE (⟨ZF .i64 (w64 (b_.Hits*2 ^ 1)) 65535,Yo 16 (w64 (b_.Scans+1))⟩:Zc) of_) (fun r3=>.i r3) (fun w _=>K9 (⟨ZF .i64 (w64 (b_.Hits*2 ^ 1)) 65535,Yo 16 (w64 (b_.Scans+1))⟩:Zc) of_ w (by have m0_:=BS 16 (w64 (b_.Scans+1));have m1_:=BU 16 (w64 (b_.Scans+1));have m2_:=WA 16 (w64 (b_.Scans+1));exact sg)) {} (fun r3 hr3=>TL.r 5 [] [(31,.b (decide (r3≥need)))] {} (TL.next rfl (TC.cond (decide (r3≥need)) rfl Kr (fun h6=>?_) (fun h6=>?_))))))))))
  ·exact TC.sr (TL.r 1 [1] [(32,Zc.v (⟨ZF .i64 (w64 (b_.Hits*2 ^ 1)) 65535,Yo 16 (w64 (b_.Scans+1))⟩:Zc))] {} (TL.s 0 (Bk b2 (Zc.c (⟨ZF .i64 (w64 (b_.Hits*2 ^ 1)) 65535,Yo 16 (w64 (b_.Scans+1))⟩:Zc)) 120) (fun _=>{}) (TL.r 3 [] [(9,.i 1)] {} (TL.next rfl (TC.ret (TE.rt (TE.ret [0] (.tuple #[Zc.v (⟨ZF .i64 (w64 (b_.Hits*2 ^ 1)) 65535,Yo 16 (w64 (b_.Scans+1))⟩:Zc),.i 1]) {} (by unfold Qf;refine eS (a:=((⟨ZF .i64 (w64 (b_.Hits*2 ^ 1)) 65535,Yo 16 (w64 (b_.Scans+1))⟩:Zc),1)) (fun (z:Zc×Int)=>(.tuple #[Zc.v z.1,.i z.2]:Value)) ?_;subst hr3;exact Zb h1 (Zi h6 (rfl))))))))))
  ·have q6_0:=(Zq h6)
   refine TC.sn (TC.seq (TC.sr (TL.r 4 [1] [(36,.b (decide ((Yo 16 (w64 (b_.Scans+1)))<of_)))] {} (TL.next rfl (TC.cond (decide ((Yo 16 (w64 (b_.Scans+1)))<of_)) rfl Kr (fun h7=>?_) (fun h7=>?_))))))
   ·exact TC.sr (TL.r 1 [1] [(37,Zc.v (⟨ZF .i64 (w64 (b_.Hits*2 ^ 1)) 65535,Yo 16 (w64 (b_.Scans+1))⟩:Zc))] {} (TL.s 0 (Bk b2 (Zc.c (⟨ZF .i64 (w64 (b_.Hits*2 ^ 1)) 65535,Yo 16 (w64 (b_.Scans+1))⟩:Zc)) 120) (fun _=>{}) (TL.r 3 [] [(9,.i 0)] {} (TL.next rfl (TC.ret (TE.rt (TE.ret [0] (.tuple #[Zc.v (⟨ZF .i64 (w64 (b_.Hits*2 ^ 1)) 65535,Yo 16 (w64 (b_.Scans+1))⟩:Zc),.i 0]) {} (by unfold Qf;refine eS (a:=((⟨ZF .i64 (w64 (b_.Hits*2 ^ 1)) 65535,Yo 16 (w64 (b_.Scans+1))⟩:Zc),0)) (fun (z:Zc×Int)=>(.tuple #[Zc.v z.1,.i z.2]:Value)) ?_;subst hr3;exact Zb h1 (Zb h6 (Zi h7 (rfl)))))))))))
   ·have q7_0:=(Zq h7)
    refine TC.sn (TC.seq (TC.sr (TL.r 1 [] [(10,.i 1)] {} (TL.next rfl ?_))))
    obtain⟨R2,hR_2⟩:∃ R,R=Kq b_ need of_ ((of_-1).toNat) 0:=⟨_,rfl⟩
    refine TC.cut (S:=Unit) (fun (_:Unit)=>[(4,.p0 b1),(8,.p0 b2)]) (fun (_:Unit)=>[Bk b2 (Zc.c Zc.zero) 120,Bk b1 (Zc.c (⟨ZF .i64 (w64 (b_.Hits*2 ^ 1)) 65535,Yo 16 (w64 (b_.Scans+1))⟩:Zc)) 120]) (fun (_:Unit)=>R2=.inl ()) ?_ ?_
    ·refine TC.block (TC.rw 10 (.i 1) (.i (1+((0:Nat):Int))) Kr (int_eq (by first|omega|(rw[Zn (by omega)];omega)|(simp only[Y7];omega))) (TC.lw (X:=Nat) (fun k_2=>[(2,.i need),(3,.i of_),(4,.p0 b1),(8,.p0 b2),(10,.i (1+(k_2:Int)))]) (fun k_2=>[Bk b2 (Zc.c Zc.zero) 120,Bk b1 (Zc.c (⟨ZF .i64 (w64 (b_.Hits*2 ^ 1)) 65535,Yo 16 (w64 (b_.Scans+1))⟩:Zc)) 120]) (fun k_2=>((of_-1).toNat)-k_2) (fun k_2=>k_2≤((of_-1).toNat)∧R2=Kq b_ need of_ (((of_-1).toNat)-k_2) k_2) ?_ 0 ⟨Nat.zero_le _,hR_2⟩ Kr (sb 3)))
     rintro k_2 ⟨hk_2,hI_2⟩
     refine TC.seq (TC.sr (TL.r 3 [] [(40,.b (decide ((1+(k_2:Int))<of_)))] {} (TL.next rfl (TC.cond (decide ((1+(k_2:Int))<of_)) rfl Kr (fun h8=>?_) (fun h8=>?_)))))
     ·have hlt_2:k_2<((of_-1).toNat):=by have p0_:=(Z5 h8);first|omega|(simp only[Y7] at *;omega)
      have hd_2:((of_-1).toNat)-k_2=(((of_-1).toNat)-(k_2+1))+1:=by omega
      have q8_0:=(Z5 h8)
      refine TC.sn (TC.seq (TC.block (TC.sr (TL.r 4 [1] [(43,Zc.v (⟨ZF .i64 (w64 (b_.Hits*2 ^ 1)) 65535,Yo 16 (w64 (b_.Scans+1))⟩:Zc)),(46,.i (w64 (of_-(1+(k_2:Int)))))] {} (TL.c 47 (QE (⟨ZF .i64 (w64 (b_.Hits*2 ^ 1)) 65535,Yo 16 (w64 (b_.Scans+1))⟩:Zc) (w64 (of_-(1+(k_2:Int))))) (fun r4=>.i r4) (fun w _=>K9 (⟨ZF .i64 (w64 (b_.Hits*2 ^ 1)) 65535,Yo 16 (w64 (b_.Scans+1))⟩:Zc) (w64 (of_-(1+(k_2:Int)))) w (by have m0_:=BS 16 (w64 (b_.Scans+1));have m1_:=BU 16 (w64 (b_.Scans+1));have m2_:=WA 16 (w64 (b_.Scans+1));exact sg)) {} (fun r4 hr4=>TL.r 6 [] [(11,.i r4)] {} (TL.nr (TL.r 3 [] [(50,.b (decide (r4>0)))] {} (TL.j 50 (decide (r4>0)) 9 [] [] (fun β=>[(56,.b (β&&(decide ((w64 (r4+(1+(k_2:Int))))≥need))))]) Kr {} {} (TL.next rfl (TC.cond ((decide (r4>0))&&(decide ((w64 (r4+(1+(k_2:Int))))≥need))) rfl Kr (fun h9=>?_) (fun h9=>?_))))))))))))
      ·refine TC.sr (TL.r 1 [1] [(57,Zc.v (⟨ZF .i64 (w64 (b_.Hits*2 ^ 1)) 65535,Yo 16 (w64 (b_.Scans+1))⟩:Zc))] {} (TL.s 0 (Bk b2 (Zc.c (⟨ZF .i64 (w64 (b_.Hits*2 ^ 1)) 65535,Yo 16 (w64 (b_.Scans+1))⟩:Zc)) 120) (fun _=>{}) (TL.r 3 [] [(9,.i 0)] {} (TL.next rfl (TC.ret (TE.rb (TE.rt (TE.rt (TE.rb (TE.rt (TE.rt ?_)))))))))))
       exact TE.ret [0] (.tuple #[Zc.v (⟨ZF .i64 (w64 (b_.Hits*2 ^ 1)) 65535,Yo 16 (w64 (b_.Scans+1))⟩:Zc),.i 0]) {} (by unfold Qf;refine eS (a:=((⟨ZF .i64 (w64 (b_.Hits*2 ^ 1)) 65535,Yo 16 (w64 (b_.Scans+1))⟩:Zc),0)) (fun (z:Zc×Int)=>(.tuple #[Zc.v z.1,.i z.2]:Value)) ?_;subst hr3 hr4;exact Zb h1 (Zb h6 (Zb h7 (X2 (hR_2.symm.trans (hI_2.trans (by rw[hd_2];exact Zi h9 (rfl)))) rfl))))
      ·have q9_0:=((X7 h9).imp (fun h=>(Zq h)) (fun h=>(Zq h)))
       exact TC.skip (TE.nb (TE.next (TC.region (TL.r 3 [] [(10,.i (w64 ((1+(k_2:Int))+1)))] {} (TL.done rfl (TE.rw 10 (.i (w64 ((1+(k_2:Int))+1))) (.i (1+((k_2+1:Nat):Int))) Kr (int_eq (by first|omega|(rw[Zn (by omega)];omega)|(simp only[Y7] at *;omega))) (TE.again (x:=k_2) (k_2+1) ⟨by omega,hI_2.trans (by subst hr3 hr4;rw[hd_2];exact Zb h9 (rfl))⟩ (mN hlt_2) Kr (sb 3))))))))
     ·have hd_2:((of_-1).toNat)-k_2=0:=by have p0_:=(Zq h8);first|omega|(simp only[Y7] at *;omega)
      refine TC.exit (TE.et (TE.et (TE.exit_same ?_)))
      exact TE.cut () (hI_2.trans (by subst hr3;rw[hd_2];exact rfl)) Kr (sb 3)
    ·intro _ hJ_2
     exact TE.nr (TL.r 1 [1] [(58,Zc.v (⟨ZF .i64 (w64 (b_.Hits*2 ^ 1)) 65535,Yo 16 (w64 (b_.Scans+1))⟩:Zc))] {} (TL.s 0 (Bk b2 (Zc.c (⟨ZF .i64 (w64 (b_.Hits*2 ^ 1)) 65535,Yo 16 (w64 (b_.Scans+1))⟩:Zc)) 120) (fun _=>{}) (TL.r 3 [] [(9,.i 2)] {} (TL.next rfl (TC.ret (TE.ret [0] (.tuple #[Zc.v (⟨ZF .i64 (w64 (b_.Hits*2 ^ 1)) 65535,Yo 16 (w64 (b_.Scans+1))⟩:Zc),.i 2]) {} (by unfold Qf;refine eS (a:=((⟨ZF .i64 (w64 (b_.Hits*2 ^ 1)) 65535,Yo 16 (w64 (b_.Scans+1))⟩:Zc),2)) (fun (z:Zc×Int)=>(.tuple #[Zc.v z.1,.i z.2]:Value)) ?_;subst hr3;exact Zb h1 (Zb h6 (Zb h7 (XE (hR_2.symm.trans hJ_2) (rfl)))))))))))
def QF (b_:Zc) (hit:Bool) (need:Int) (of_:Int):Zc×Int×Int :=
 let r1:=Jm b_
 cond (r1 != 0) (
  ((⟨0,0⟩:Zc),0,r1)) (
  let r2:=Xx need of_
  cond (r2 != 0) (
   ((⟨0,0⟩:Zc),0,r2)) (
   let r3:=Qf b_ hit need of_
   (r3.1,r3.2,0)))
theorem SK {need of_ r:Int} (hr:Xx need of_=r) (h:(r != 0)=false):1≤of_∧of_≤16:=by
 subst hr
 unfold Xx at h
 cases hc:((((decide (of_<1))||(decide (of_>16)))||(decide (need<1)))||(decide (need>of_))) with
 | true=>simp only[hc,cond_true] at h;cases h
 | false =>
  have q:=Zt (Zt hc)
  have q1:=Zq (Zt q)
  have q2:=Zq (ZO q)
  omega
set_option maxRecDepth 100000 in
theorem Dm (b_:Zc) (hit:Bool) (need:Int) (of_:Int) (w:World):Calls Tryz.prog 113 #[Zc.v b_,.bool hit,.int .i64 need,.int .i64 of_] w (Ret w (.tuple #[Zc.v ((QF b_ hit need of_).1),.int .i64 ((QF b_ hit need of_).2.1),.int .i64 ((QF b_ hit need of_).2.2)])):=by
 refine Zj (vs:=[Zc.v b_,.b hit,.i need,.i of_]) (w:=w) Tryz.func113 rfl Tryz.ntmps113 rfl (TC.sr (TL.nw 4 (fun b1=>.p0 b1) (fun b1=>Bk b1 (Zc.c b_) 120) (fun b1=>{}) (fun b1=>TL.nw 8 (fun b2=>.p0 b2) (fun b2=>Bk b2 (Zc.c Zc.zero) 120) (fun b2=>{}) (fun b2=>TL.r 4 [] [(9,.i 0),(10,.i 0)] {} (TL.ns (TC.sr (TL.r 1 [1] [(14,Zc.v b_)] {} (TL.c 15 (Jm b_) (fun r1=>.i r1) (fun w _=>Bc b_ w) {} (fun r1 hr1=>TL.r 3 [] [(11,.i r1)] {} (TL.nr (TL.r 2 [] [(17,.b (r1 != 0))] {} (TL.next rfl (TC.cond (r1 != 0) rfl Kr (fun h1=>?_) (fun h1=>?_))))))))))))))
 ·exact TC.sr (TL.r 2 [] [(18,Zc.v Zc.zero),(19,.i r1)] {} (TL.s 0 (Bk b2 (Zc.c Zc.zero) 120) (fun _=>{}) (TL.r 5 [] [(9,.i 0),(10,.i r1)] {} (TL.next rfl (TC.ret (TE.rt (TE.ret [0] (.tuple #[Zc.v (⟨0,0⟩:Zc),.i 0,.i r1]) {} (by unfold QF;refine eS (a:=((⟨0,0⟩:Zc),0,r1)) (fun (z:Zc×Int×Int)=>(.tuple #[Zc.v z.1,.i z.2.1,.i z.2.2]:Value)) ?_;subst hr1;exact Zi h1 (rfl)))))))))
 ·refine TC.sn (TC.seq (TC.sr (TL.r 2 [] [(20,.i need),(21,.i of_)] {} (TL.c 22 (Xx need of_) (fun r2=>.i r2) (fun w _=>Ve need of_ w) {} (fun r2 hr2=>TL.r 4 [] [(12,.i r2)] {} (TL.nr (TL.r 2 [] [(24,.b (r2 != 0))] {} (TL.next rfl (TC.cond (r2 != 0) rfl Kr (fun h2=>?_) (fun h2=>?_))))))))))
  ·exact TC.sr (TL.r 2 [] [(25,Zc.v Zc.zero),(26,.i r2)] {} (TL.s 0 (Bk b2 (Zc.c Zc.zero) 120) (fun _=>{}) (TL.r 5 [] [(9,.i 0),(10,.i r2)] {} (TL.next rfl (TC.ret (TE.rt (TE.ret [0] (.tuple #[Zc.v (⟨0,0⟩:Zc),.i 0,.i r2]) {} (by unfold QF;refine eS (a:=((⟨0,0⟩:Zc),0,r2)) (fun (z:Zc×Int×Int)=>(.tuple #[Zc.v z.1,.i z.2.1,.i z.2.2]:Value)) ?_;subst hr1 hr2;exact Zb h1 (Zi h2 (rfl))))))))))
  ·exact TC.snr (TL.r 4 [1] [(28,Zc.v b_),(29,.b hit),(30,.i need),(31,.i of_)] {} (TL.c 32 (Qf b_ hit need of_) (fun r3=>.tuple #[Zc.v r3.1,.i r3.2]) (fun w _=>Dl b_ hit need of_ w (SK hr2 h2)) {} (fun r3 hr3=>TL.r 8 [] [(33,Zc.v r3.1),(34,.i r3.2)] {} (TL.s 1 (Bk b1 (Zc.c r3.1) 120) (fun _=>{}) (TL.r 10 [] [(13,.i r3.2)] {} (TL.nr (TL.r 2 [1] [(35,Zc.v r3.1),(36,.i r3.2)] {} (TL.s 0 (Bk b2 (Zc.c r3.1) 120) (fun _=>{}) (TL.r 5 [] [(9,.i r3.2),(10,.i 0)] {} (TL.next rfl (TC.ret (TE.ret [0] (.tuple #[Zc.v r3.1,.i r3.2,.i 0]) {} (by unfold QF;refine eS (a:=(r3.1,r3.2,0)) (fun (z:Zc×Int×Int)=>(.tuple #[Zc.v z.1,.i z.2.1,.i z.2.2]:Value)) ?_;subst hr1 hr2 hr3;exact Zb h1 (Zb h2 (rfl)))))))))))))))
end Go.Sky
end
section
namespace Go.Eng
section
variable {G:Type} {P:Program} {n:Nat} {w0:Ctx} {ops:Array Oper} {base:ZC} {vals:G→List Value} {writes:List Nat} {mem:List Bool→G→Mem}
end
end Go.Eng
namespace Go.Eng
section
variable {G:Type} {P:Program} {n:Nat} {w0:Ctx} {ops:Array Oper} {base:ZC} {vals:G→List Value} {writes:List Nat} {mem:List Bool→G→Mem}
theorem Steps.opL {Γ:Type} (set:Γ→G→G) (E:G→Mem) (E':Γ→G→Mem) (X:(Nat→Bool)→G→Mem) (D:List Nat) (s:G→Sem Next) (d:Option Tmp) (v:Γ→G→Value) {i:Nat}
  (hpre:∀ S γ,S i=false→(∀ e:Nat,(Qm ops.toList i).contains e=true→S e=true)→(∀ k:Nat,(Qm ops.toList k).contains i=true→S k=false)→(mem (writes.map S) γ).Perm (E γ++X S γ))
  (hpost:∀ S γ g,S i=false→(∀ e:Nat,(Qm ops.toList i).contains e=true→S e=true)→(∀ k:Nat,(Qm ops.toList k).contains i=true→S k=false)→(E' g γ++X S γ).Perm (mem (writes.map (upS S i)) (set g γ)))
  (hv:∀ γ M' w,Sat w0 (E γ++M') w→∃ g w',(s γ).run P w=.ok (.value (v g γ)) w'∧Sat w0 (E' g γ++M') w')
  (hs:∀ γ,semAt ops.toList (VS ops.toList base (vals γ)) i=some (s γ,d)) (hval:∀ γ g,(vals (set g γ))[i]?=some (v g γ))
  (hD:SH ops.toList i D=true) (hmask:∀ γ g,VY D 0 (vals (set g γ))=VY D 0 (vals γ))
  (h:Steps P w0 ops base vals writes mem (ops.toList.drop (i+1)) (i+1)):Steps P w0 ops base vals writes mem (ops.toList.drop i) i:=by
 refine Steps.cons_of (fun o ho S γ w hSi hd hc hMw=>?_) h
 obtain⟨o',h1,h2,h3,h4⟩:=KD (hs γ)
 rw[ho] at h1
 simp only[Option.some.injEq] at h1
 subst h1
 have hd':∀ e:Nat,(Qm ops.toList i).contains e=true→S e=true:=fun e he=>hd e (by unfold Qm at he;rw[ho] at he;simpa using he)
 rw[h2]
 simp only
 unfold VA
 obtain⟨g,w',hr,hM'⟩:=hv γ _ w (hMw.perm (hpre S γ hSi hd' (Vt hSi hc)))
 rw[h3,hr]
 exact⟨set g γ,agree hD hSi hc (hmask γ g),hval γ g,hM'.perm (hpost S γ g hSi hd' (Vt hSi hc))⟩
end
end Go.Eng
namespace Go.Eng
section
variable {P:Program} {ops hd:Array Oper} {Q:Exit→Act→World→Prop} {N:Nat}
end
section
variable {G:Type} {P:Program} {n:Nat} {w0:Ctx} {ops:Array Oper} {base:ZC} {vals:G→List Value} {writes:List Nat} {mem:List Bool→G→Mem}
end
end Go.Eng
end
section
namespace Go.Sky
open Go Go.Eng Go.Proofs
def J8 (band:Int):Bool :=
 (decide (band<0))||(decide (band>60000))
set_option maxRecDepth 100000 in
theorem Gk (band:Int) (w:World):Calls Tryz.prog 82 #[.int .i64 band] w (Ret w (.bool (J8 band))):=by
 exact Zj (vs:=[.i band]) (w:=w) Tryz.func82 rfl Tryz.ntmps82 rfl (TC.sr (TL.r 1 [] [(2,.b false)] {} (TL.nr (TL.r 3 [] [(5,.b (decide (band<0)))] {} (TL.j 5 (decide (band<0)) 6 [] [] (fun β=>[(8,.b (β||(decide (band>60000))))]) Kr {} {} (TL.r 7 [] [(2,.b ((decide (band<0))||(decide (band>60000))))] {} (TL.next rfl (TC.ret (TE.ret [] (.b ((decide (band<0))||(decide (band>60000)))) {} (by unfold J8;refine eS (fun z=>(.b z:Value)) ?_;exact rfl))))))))))
def JS (a:Int) (b_:Int) (band:Int):Bool :=
 decide ((WR (w64 (a-b_)) (w64 (b_-a)))≤band)
set_option maxRecDepth 100000 in
theorem Wt (a:Int) (b_:Int) (band:Int) (w:World):Calls Tryz.prog 145 #[.int .i64 a,.int .i64 b_,.int .i64 band] w (Ret w (.bool (JS a b_ band))):=by
 exact Zj (vs:=[.i a,.i b_,.i band]) (w:=w) Tryz.func145 rfl Tryz.ntmps145 rfl (TC.sr (TL.r 1 [] [(6,.b false)] {} (TL.nr (TL.r 10 [] [(6,.b (decide ((WR (w64 (a-b_)) (w64 (b_-a)))≤band)))] {} (TL.next rfl (TC.ret (TE.ret [] (.b (decide ((WR (w64 (a-b_)) (w64 (b_-a)))≤band))) {} (by unfold JS;refine eS (fun z=>(.b z:Value)) ?_;exact rfl))))))))
def Js (a:Za) (b_:Za) (band:Int):Bool :=
 cond (a.Track.Time==b_.Track.Time) (
  let r1:=ZQ a.Track.At b_.Track.At (w64 (a.Track.Radius+b_.Track.Radius))
  cond r1 (
   let r2:=JS a.Track.Height b_.Track.Height band
   cond r2 (
    cond (a.Track.Code==b_.Track.Code) (
     true) (
     cond (a.Track.Code==(-1)) (
      true) (
      b_.Track.Code==(-1)))) (
    false)) (
   false)) (
  false)
set_option maxRecDepth 100000 in
theorem FP (a:Za) (b_:Za) (band:Int) (w:World):Calls Tryz.prog 158 #[Za.v a,Za.v b_,.int .i64 band] w (Ret w (.bool (Js a b_ band))):=by
 refine Zj (vs:=[Za.v a,Za.v b_,.i band]) (w:=w) Tryz.func158 rfl Tryz.ntmps158 rfl (TC.sr (TL.nw 3 (fun b1=>.p0 b1) (fun b1=>Bk b1 (Za.c a) 44) (fun b1=>{}) (fun b1=>TL.nw 4 (fun b2=>.p0 b2) (fun b2=>Bk b2 (Za.c b_) 44) (fun b2=>{}) (fun b2=>TL.r 3 [] [(6,.b false)] {} (TL.ns ?_)))))
 let Mr1_:Mem:=[Bk b2 (Za.c b_) 44,Bk b1 (Za.c a) 44]
 refine TC.plan (G:=Nat×Nat) (base:=[(2,.i band),(3,.p0 b1),(4,.p0 b2)]) (vals:=fun γ=>[.p0 b1,Track.v a.Track,.p0 b2,Track.v b_.Track,.p0 γ.1,.p0 γ.2,undef,undef]) (writes:=[4,5,6,7]) (mem:=fun bs γ=>match bs with | [x4_,x5_,x6_,x7_]=>(bif x6_ then [Bk γ.1 (Track.c a.Track) 40] else bif x4_ then [Bk γ.1 (Track.c Track.zero) 40] else [])++((bif x7_ then [Bk γ.2 (Track.c b_.Track) 40] else bif x5_ then [Bk γ.2 (Track.c Track.zero) 40] else [])++(Mr1_))|_=>[]) (0,0) (fun γ=>[(2,.i band),(7,.p0 γ.1),(8,.p0 γ.2)]) Kr Kr Kr Kr Kr (fun γ=>Kr) (fun _ hM=>hM) (fun γ=>Kr) ?_ ?_
 ·skip
  exact Steps.run (i:=0) 4 [0,1,0,0] Mr1_ Kr Kr (fun S (γ:Nat×Nat) w hM=>by rw[mS4 rfl rfl rfl rfl] at hM;exact hM.sub (Zk (Zk (List.Sublist.refl _)))) Kr (fun (γ:Nat×Nat)=>{}) (Steps.op (i:=4) (Γ:=Nat) (fun g (γ:Nat×Nat)=>(g,γ.2)) (fun _=>[]) (fun b (γ:Nat×Nat)=>[Bk b (Track.c Track.zero) 40]) (fun S (γ:Nat×Nat)=>(bif S 7 then [Bk γ.2 (Track.c b_.Track) 40] else bif S 5 then [Bk γ.2 (Track.c Track.zero) 40] else [])++(Mr1_)) [4,6,7] (fun (γ:Nat×Nat)=>sV (Instr.alloc 40 true (.tuple #[]))) (some 7) (fun b (γ:Nat×Nat)=>.p0 b) (fun S (γ:Nat×Nat) hj hd hl=>by rw[mS4 hj rfl (hl 6 Kr) rfl];exact List.Perm.refl _) (fun S (γ:Nat×Nat) g hl=>by rw[mS4 (S:=upS S 4) (a0:=4) (a1:=5) (a2:=6) (a3:=7) rfl rfl (hl 6 Kr) rfl];exact(List.Perm.refl _).symm) (fun (γ:Nat×Nat) M' w hM=>Q2 (v:=fun b=>.p0 b) (fun b M=>Kr) M' w hM) (fun (γ:Nat×Nat)=>Kr) (fun (γ:Nat×Nat) g=>Kr) Kr (fun (γ:Nat×Nat) g=>Kr) (Steps.op (i:=5) (Γ:=Nat) (fun g (γ:Nat×Nat)=>(γ.1,g)) (fun _=>[]) (fun b (γ:Nat×Nat)=>[Bk b (Track.c Track.zero) 40]) (fun S (γ:Nat×Nat)=>(bif S 6 then [Bk γ.1 (Track.c a.Track) 40] else bif S 4 then [Bk γ.1 (Track.c Track.zero) 40] else [])++(Mr1_)) [5,6,7] (fun (γ:Nat×Nat)=>sV (Instr.alloc 40 true (.tuple #[]))) (some 8) (fun b (γ:Nat×Nat)=>.p0 b) (fun S (γ:Nat×Nat) hj hd hl=>by rw[mS4 rfl hj rfl (hl 7 Kr)];exact(List.Perm.append_left _ (List.Perm.refl _)).trans (ZT _ _ _)) (fun S (γ:Nat×Nat) g hl=>by rw[mS4 (S:=upS S 5) (a0:=4) (a1:=5) (a2:=6) (a3:=7) rfl rfl rfl (hl 7 Kr)];exact((List.Perm.append_left _ (List.Perm.refl _)).trans (ZT _ _ _)).symm) (fun (γ:Nat×Nat) M' w hM=>Q2 (v:=fun b=>.p0 b) (fun b M=>Kr) M' w hM) (fun (γ:Nat×Nat)=>Kr) (fun (γ:Nat×Nat) g=>Kr) Kr (fun (γ:Nat×Nat) g=>Kr) (Steps.put (i:=6) (fun (γ:Nat×Nat)=>[Bk γ.1 (Track.c Track.zero) 40]) (fun (γ:Nat×Nat)=>[Bk γ.1 (Track.c a.Track) 40]) (fun S (γ:Nat×Nat)=>(bif S 7 then [Bk γ.2 (Track.c b_.Track) 40] else bif S 5 then [Bk γ.2 (Track.c Track.zero) 40] else [])++(Mr1_)) (fun (γ:Nat×Nat)=>sU (Instr.storeAt 40 (.p0 γ.1) (Track.v a.Track))) none (fun S (γ:Nat×Nat) hj hd hl=>by rw[mS4 (hd 4 Kr) rfl hj rfl];exact List.Perm.refl _) (fun S (γ:Nat×Nat) _=>(List.Perm.refl _).symm) (fun (γ:Nat×Nat) M' w hM=>QV (fun b M=>Kr) (fun b M=>Kr) M' w hM) (fun (γ:Nat×Nat)=>Kr) (fun (γ:Nat×Nat)=>Kr) (Steps.put (i:=7) (fun (γ:Nat×Nat)=>[Bk γ.2 (Track.c Track.zero) 40]) (fun (γ:Nat×Nat)=>[Bk γ.2 (Track.c b_.Track) 40]) (fun S (γ:Nat×Nat)=>(bif S 6 then [Bk γ.1 (Track.c a.Track) 40] else bif S 4 then [Bk γ.1 (Track.c Track.zero) 40] else [])++(Mr1_)) (fun (γ:Nat×Nat)=>sU (Instr.storeAt 40 (.p0 γ.2) (Track.v b_.Track))) none (fun S (γ:Nat×Nat) hj hd hl=>by rw[mS4 rfl (hd 5 Kr) rfl hj];exact(List.Perm.append_left _ (List.Perm.refl _)).trans (ZT _ _ _)) (fun S (γ:Nat×Nat) _=>((List.Perm.append_left _ (List.Perm.refl _)).trans (ZT _ _ _)).symm) (fun (γ:Nat×Nat) M' w hM=>QV (fun b M=>Kr) (fun b M=>Kr) M' w hM) (fun (γ:Nat×Nat)=>Kr) (fun (γ:Nat×Nat)=>Kr) (Steps.done Kr)))))
 ·rintro⟨b3,b4⟩
  refine TE.conv [Bk b3 (Track.c a.Track) 40,Bk b4 (Track.c b_.Track) 40,Bk b2 (Za.c b_) 44,Bk b1 (Za.c a) 44] (fun _ hM=>hM) (TE.nr (TL.r 6 [0,1] [(18,.b (a.Track.Time==b_.Track.Time))] {} (TL.split 18 (a.Track.Time==b_.Track.Time) Kr (fun h1=>?_) (fun h1=>?_))))
  ·refine TL.r 15 [0,1,0,1] [(20,P.v a.Track.At),(22,P.v b_.Track.At),(27,.i (w64 (a.Track.Radius+b_.Track.Radius)))] {} (TL.c 28 (ZQ a.Track.At b_.Track.At (w64 (a.Track.Radius+b_.Track.Radius))) (fun r1=>.b r1) (fun w _=>QN a.Track.At b_.Track.At (w64 (a.Track.Radius+b_.Track.Radius)) w) {} (fun r1 hr1=>TL.r 18 [] [(30,.b r1)] {} (TL.split 30 r1 Kr (fun h2=>?_) (fun h2=>?_))))
   ·refine TL.r 23 [0,1] [(32,.i a.Track.Height),(34,.i b_.Track.Height),(35,.i band)] {} (TL.c 36 (JS a.Track.Height b_.Track.Height band) (fun r2=>.b r2) (fun w _=>Wt a.Track.Height b_.Track.Height band w) {} (fun r2 hr2=>TL.r 26 [] [(38,.b r2)] {} (TL.split 38 r2 Kr (fun h3=>?_) (fun h3=>?_))))
    ·refine TL.r 32 [0,1] [(44,.b (a.Track.Code==b_.Track.Code))] {} (TL.split 44 (a.Track.Code==b_.Track.Code) Kr (fun h4=>?_) (fun h4=>?_))
     ·exact TL.r 43 [] [(6,.b true)] {} (TL.next rfl (TC.ret (TE.ret [] (.b true) {} (by unfold Js;refine eS (fun z=>(.b z:Value)) ?_;subst hr1 hr2;exact Zi h1 (Zi h2 (Zi h3 (Zi h4 (rfl))))))))
     ·refine TL.r 37 [0] [(49,.b (a.Track.Code==(-1)))] {} (TL.split 49 (a.Track.Code==(-1)) Kr (fun h5=>?_) (fun h5=>?_))
      ·exact TL.r 43 [] [(6,.b true)] {} (TL.next rfl (TC.ret (TE.ret [] (.b true) {} (by unfold Js;refine eS (fun z=>(.b z:Value)) ?_;subst hr1 hr2;exact Zi h1 (Zi h2 (Zi h3 (Zb h4 (Zi h5 (rfl)))))))))
      ·exact TL.r 43 [1] [(6,.b (b_.Track.Code==(-1)))] {} (TL.next rfl (TC.ret (TE.ret [] (.b (b_.Track.Code==(-1))) {} (by unfold Js;refine eS (fun z=>(.b z:Value)) ?_;subst hr1 hr2;exact Zi h1 (Zi h2 (Zi h3 (Zb h4 (Zb h5 (rfl)))))))))
    ·exact TL.r 43 [] [(6,.b false)] {} (TL.next rfl (TC.ret (TE.ret [] (.b false) {} (by unfold Js;refine eS (fun z=>(.b z:Value)) ?_;subst hr1 hr2;exact Zi h1 (Zi h2 (Zb h3 (rfl)))))))
   ·exact TL.r 43 [] [(6,.b false)] {} (TL.next rfl (TC.ret (TE.ret [] (.b false) {} (by unfold Js;refine eS (fun z=>(.b z:Value)) ?_;subst hr1;exact Zi h1 (Zb h2 (rfl))))))
  ·exact TL.r 43 [] [(6,.b false)] {} (TL.next rfl (TC.ret (TE.ret [] (.b false) {} (by unfold Js;refine eS (fun z=>(.b z:Value)) ?_;exact Zb h1 (rfl)))))
def Ks (i:Int) (k:Int) (x:List Za):Bool :=
 let r1:=cmp_Compare_int (((x[i.toNat]?.getD Za.zero).Track).Radius) (((x[k.toNat]?.getD Za.zero).Track).Radius)
 let r2:=cmp_Compare_int (((x[k.toNat]?.getD Za.zero).Track).Hits) (((x[i.toNat]?.getD Za.zero).Track).Hits)
 let r3:=cmp_Compare_int (((x[i.toNat]?.getD Za.zero).Track).ID) (((x[k.toNat]?.getD Za.zero).Track).ID)
 let r4:=cmp_Compare_int i k
 let r5:=QW ([r1,r2,r3,r4])
 decide (r5<0)
set_option maxRecDepth 100000 in
theorem W2 (i:Int) (k:Int) (a_x:Addr) (A_x:Option Addr) (c_x:Nat) (x:List Za) (w:World) (h_x:Rd w 1 (some a_x) [Sl.c (⟨A_x,c_x,x⟩:Sl Za)]) (hd_x:(⟨A_x,c_x,x⟩:Sl Za).rd w 20 Za.c) (hi:0≤i∧i<(x.length:Int)) (hk:0≤k∧k<(x.length:Int)):Calls Tryz.prog 157 #[.int .i64 i,.int .i64 k,.pointer (some a_x)] w (Ret w (.bool (Ks i k x))):=by
 refine Zj (vs:=[.i i,.i k,.pointer (some a_x)]) (w:=w) Tryz.func157 rfl Tryz.ntmps157 rfl (TC.sr (TL.r 1 [] [(5,.b false)] {} (TL.ns (TC.plan (G:=Nat×Nat) (base:=[(0,.i i),(1,.i k),(2,.pointer (some a_x))]) (vals:=fun γ=>[.slice A_x x.length c_x,.i i,.pointer (some (Ix A_x (i.toNat*20))),.pointer (some (Ix A_x (i.toNat*20))),Track.v ((x[i.toNat]?.getD Za.zero).Track),.slice A_x x.length c_x,.i k,.pointer (some (Ix A_x (k.toNat*20))),.pointer (some (Ix A_x (k.toNat*20))),Track.v ((x[k.toNat]?.getD Za.zero).Track),.p0 γ.1,.p0 γ.2,undef,undef]) (writes:=[10,11,12,13]) (mem:=fun bs γ=>match bs with | [x10_,x11_,x12_,x13_]=>(bif x12_ then [Bk γ.1 (Track.c ((x[i.toNat]?.getD Za.zero).Track)) 40] else bif x10_ then [Bk γ.1 (Track.c Track.zero) 40] else [])++((bif x13_ then [Bk γ.2 (Track.c ((x[k.toNat]?.getD Za.zero).Track)) 40] else bif x11_ then [Bk γ.2 (Track.c Track.zero) 40] else [])++([]))|_=>[]) (0,0) (fun γ=>[(0,.i i),(1,.i k),(6,.p0 γ.1),(7,.p0 γ.2)]) Kr Kr Kr Kr Kr (fun γ=>Kr) (fun _ hM=>hM) (fun γ=>Kr) ?_ ?_))))
 ·skip
  exact Steps.val (i:=0) (fun (γ:Nat×Nat)=>sV (Instr.loadAt 31 (.pointer (some a_x)))) (some 8) (fun (γ:Nat×Nat)=>.slice A_x x.length c_x) (fun _=>[]) Kr (fun S (γ:Nat×Nat) w _ hM=>by rw[mS4 rfl rfl rfl rfl] at hM;exact hM.sub (Zk (Zk (List.Sublist.refl _)))) (fun (γ:Nat×Nat) w hM=>Zs (off:=0) (.slice A_x x.length c_x) (h_x.sat hM) (Xu _) Kr Kr) (fun (γ:Nat×Nat)=>Kr) (fun (γ:Nat×Nat)=>Kr) (Steps.run (i:=1) 2 [0] [] Kr Kr (fun S (γ:Nat×Nat) w hM=>by rw[mS4 rfl rfl rfl rfl] at hM;exact hM.sub (Zk (Zk (List.Sublist.refl _)))) Kr (fun (γ:Nat×Nat)=>{}) (Steps.val (i:=2) (fun (γ:Nat×Nat)=>sV (Instr.indexAt 31 (.slice A_x x.length c_x) (.i i))) (some 10) (fun (γ:Nat×Nat)=>.pointer (some (Ix A_x (i.toNat*20)))) (fun _=>[]) Kr (fun S (γ:Nat×Nat) w _ hM=>by rw[mS4 rfl rfl rfl rfl] at hM;exact hM.sub (Zk (Zk (List.Sublist.refl _)))) (fun (γ:Nat×Nat) w hM=>Zr (hd_x.rd.sat hM) (by simp) Kr sd sd) (fun (γ:Nat×Nat)=>Kr) (fun (γ:Nat×Nat)=>Kr) (Steps.run (i:=3) 4 [0] [] Kr Kr (fun S (γ:Nat×Nat) w hM=>by rw[mS4 rfl rfl rfl rfl] at hM;exact hM.sub (Zk (Zk (List.Sublist.refl _)))) Kr (fun (γ:Nat×Nat)=>{}) (Steps.val (i:=4) (fun (γ:Nat×Nat)=>sV (Instr.loadAt 40 (.pointer (some (Ix A_x (i.toNat*20)))))) (some 12) (fun (γ:Nat×Nat)=>Track.v ((x[i.toNat]?.getD Za.zero).Track)) (fun _=>[]) Kr (fun S (γ:Nat×Nat) w _ hM=>by rw[mS4 rfl rfl rfl rfl] at hM;exact hM.sub (Zk (Zk (List.Sublist.refl _)))) (fun (γ:Nat×Nat) w hM=>Z7 (n:=13) (off:=0) (i:=i.toNat) (Track.v ((x[i.toNat]?.getD Za.zero).Track)) (hd_x.rd.sat hM) (ZA (getD_at _ _ Za.zero sd)) Kr Kr Kr) (fun (γ:Nat×Nat)=>Kr) (fun (γ:Nat×Nat)=>Kr) (Steps.val (i:=5) (fun (γ:Nat×Nat)=>sV (Instr.loadAt 31 (.pointer (some a_x)))) (some 13) (fun (γ:Nat×Nat)=>.slice A_x x.length c_x) (fun _=>[]) Kr (fun S (γ:Nat×Nat) w _ hM=>by rw[mS4 rfl rfl rfl rfl] at hM;exact hM.sub (Zk (Zk (List.Sublist.refl _)))) (fun (γ:Nat×Nat) w hM=>Zs (off:=0) (.slice A_x x.length c_x) (h_x.sat hM) (Xu _) Kr Kr) (fun (γ:Nat×Nat)=>Kr) (fun (γ:Nat×Nat)=>Kr) (Steps.run (i:=6) 7 [0] [] Kr Kr (fun S (γ:Nat×Nat) w hM=>by rw[mS4 rfl rfl rfl rfl] at hM;exact hM.sub (Zk (Zk (List.Sublist.refl _)))) Kr (fun (γ:Nat×Nat)=>{}) (Steps.val (i:=7) (fun (γ:Nat×Nat)=>sV (Instr.indexAt 31 (.slice A_x x.length c_x) (.i k))) (some 15) (fun (γ:Nat×Nat)=>.pointer (some (Ix A_x (k.toNat*20)))) (fun _=>[]) Kr (fun S (γ:Nat×Nat) w _ hM=>by rw[mS4 rfl rfl rfl rfl] at hM;exact hM.sub (Zk (Zk (List.Sublist.refl _)))) (fun (γ:Nat×Nat) w hM=>Zr (hd_x.rd.sat hM) (by simp) Kr sd sd) (fun (γ:Nat×Nat)=>Kr) (fun (γ:Nat×Nat)=>Kr) (Steps.run (i:=8) 9 [0] [] Kr Kr (fun S (γ:Nat×Nat) w hM=>by rw[mS4 rfl rfl rfl rfl] at hM;exact hM.sub (Zk (Zk (List.Sublist.refl _)))) Kr (fun (γ:Nat×Nat)=>{}) (Steps.val (i:=9) (fun (γ:Nat×Nat)=>sV (Instr.loadAt 40 (.pointer (some (Ix A_x (k.toNat*20)))))) (some 17) (fun (γ:Nat×Nat)=>Track.v ((x[k.toNat]?.getD Za.zero).Track)) (fun _=>[]) Kr (fun S (γ:Nat×Nat) w _ hM=>by rw[mS4 rfl rfl rfl rfl] at hM;exact hM.sub (Zk (Zk (List.Sublist.refl _)))) (fun (γ:Nat×Nat) w hM=>Z7 (n:=13) (off:=0) (i:=k.toNat) (Track.v ((x[k.toNat]?.getD Za.zero).Track)) (hd_x.rd.sat hM) (ZA (getD_at _ _ Za.zero sd)) Kr Kr Kr) (fun (γ:Nat×Nat)=>Kr) (fun (γ:Nat×Nat)=>Kr) (Steps.op (i:=10) (Γ:=Nat) (fun g (γ:Nat×Nat)=>(g,γ.2)) (fun _=>[]) (fun b (γ:Nat×Nat)=>[Bk b (Track.c Track.zero) 40]) (fun S (γ:Nat×Nat)=>(bif S 13 then [Bk γ.2 (Track.c ((x[k.toNat]?.getD Za.zero).Track)) 40] else bif S 11 then [Bk γ.2 (Track.c Track.zero) 40] else [])++([])) [10,12,13] (fun (γ:Nat×Nat)=>sV (Instr.alloc 40 true (.tuple #[]))) (some 6) (fun b (γ:Nat×Nat)=>.p0 b) (fun S (γ:Nat×Nat) hj hd hl=>by rw[mS4 hj rfl (hl 12 Kr) rfl];exact List.Perm.refl _) (fun S (γ:Nat×Nat) g hl=>by rw[mS4 (S:=upS S 10) (a0:=10) (a1:=11) (a2:=12) (a3:=13) rfl rfl (hl 12 Kr) rfl];exact(List.Perm.refl _).symm) (fun (γ:Nat×Nat) M' w hM=>Q2 (v:=fun b=>.p0 b) (fun b M=>Kr) M' w hM) (fun (γ:Nat×Nat)=>Kr) (fun (γ:Nat×Nat) g=>Kr) Kr (fun (γ:Nat×Nat) g=>Kr) (Steps.op (i:=11) (Γ:=Nat) (fun g (γ:Nat×Nat)=>(γ.1,g)) (fun _=>[]) (fun b (γ:Nat×Nat)=>[Bk b (Track.c Track.zero) 40]) (fun S (γ:Nat×Nat)=>(bif S 12 then [Bk γ.1 (Track.c ((x[i.toNat]?.getD Za.zero).Track)) 40] else bif S 10 then [Bk γ.1 (Track.c Track.zero) 40] else [])++([])) [11,12,13] (fun (γ:Nat×Nat)=>sV (Instr.alloc 40 true (.tuple #[]))) (some 7) (fun b (γ:Nat×Nat)=>.p0 b) (fun S (γ:Nat×Nat) hj hd hl=>by rw[mS4 rfl hj rfl (hl 13 Kr)];exact(List.Perm.append_left _ (List.Perm.refl _)).trans (ZT _ _ _)) (fun S (γ:Nat×Nat) g hl=>by rw[mS4 (S:=upS S 11) (a0:=10) (a1:=11) (a2:=12) (a3:=13) rfl rfl rfl (hl 13 Kr)];exact((List.Perm.append_left _ (List.Perm.refl _)).trans (ZT _ _ _)).symm) (fun (γ:Nat×Nat) M' w hM=>Q2 (v:=fun b=>.p0 b) (fun b M=>Kr) M' w hM) (fun (γ:Nat×Nat)=>Kr) (fun (γ:Nat×Nat) g=>Kr) Kr (fun (γ:Nat×Nat) g=>Kr) (Steps.put (i:=12) (fun (γ:Nat×Nat)=>[Bk γ.1 (Track.c Track.zero) 40]) (fun (γ:Nat×Nat)=>[Bk γ.1 (Track.c ((x[i.toNat]?.getD Za.zero).Track)) 40]) (fun S (γ:Nat×Nat)=>(bif S 13 then [Bk γ.2 (Track.c ((x[k.toNat]?.getD Za.zero).Track)) 40] else bif S 11 then [Bk γ.2 (Track.c Track.zero) 40] else [])++([])) (fun (γ:Nat×Nat)=>sU (Instr.storeAt 40 (.p0 γ.1) (Track.v ((x[i.toNat]?.getD Za.zero).Track)))) none (fun S (γ:Nat×Nat) hj hd hl=>by rw[mS4 (hd 10 Kr) rfl hj rfl];exact List.Perm.refl _) (fun S (γ:Nat×Nat) _=>(List.Perm.refl _).symm) (fun (γ:Nat×Nat) M' w hM=>QV (fun b M=>Kr) (fun b M=>Kr) M' w hM) (fun (γ:Nat×Nat)=>Kr) (fun (γ:Nat×Nat)=>Kr) (Steps.put (i:=13) (fun (γ:Nat×Nat)=>[Bk γ.2 (Track.c Track.zero) 40]) (fun (γ:Nat×Nat)=>[Bk γ.2 (Track.c ((x[k.toNat]?.getD Za.zero).Track)) 40]) (fun S (γ:Nat×Nat)=>(bif S 12 then [Bk γ.1 (Track.c ((x[i.toNat]?.getD Za.zero).Track)) 40] else bif S 10 then [Bk γ.1 (Track.c Track.zero) 40] else [])++([])) (fun (γ:Nat×Nat)=>sU (Instr.storeAt 40 (.p0 γ.2) (Track.v ((x[k.toNat]?.getD Za.zero).Track)))) none (fun S (γ:Nat×Nat) hj hd hl=>by rw[mS4 rfl (hd 11 Kr) rfl hj];exact(List.Perm.append_left _ (List.Perm.refl _)).trans (ZT _ _ _)) (fun S (γ:Nat×Nat) _=>((List.Perm.append_left _ (List.Perm.refl _)).trans (ZT _ _ _)).symm) (fun (γ:Nat×Nat) M' w hM=>QV (fun b M=>Kr) (fun b M=>Kr) M' w hM) (fun (γ:Nat×Nat)=>Kr) (fun (γ:Nat×Nat)=>Kr) (Steps.done Kr))))))))))))))
 ·rintro⟨b1,b2⟩
  exact TE.conv [Bk b1 (Track.c ((x[i.toNat]?.getD Za.zero).Track)) 40,Bk b2 (Track.c ((x[k.toNat]?.getD Za.zero).Track)) 40] (fun _ hM=>hM) (TE.next (TC.seq (TC.drawTail 18 Kr Kr (TQ.r 4 [0,1] [(19,.i (((x[i.toNat]?.getD Za.zero).Track).Radius)),(21,.i (((x[k.toNat]?.getD Za.zero).Track).Radius))] {} (TQ.c 22 (cmp_Compare_int (((x[i.toNat]?.getD Za.zero).Track).Radius) (((x[k.toNat]?.getD Za.zero).Track).Radius)) (fun r1=>.i r1) (fun w _=>Ya (((x[i.toNat]?.getD Za.zero).Track).Radius) (((x[k.toNat]?.getD Za.zero).Track).Radius) w) rfl {} (fun r1 hr1=>TQ.r 9 [1,0] [(24,.i (((x[k.toNat]?.getD Za.zero).Track).Hits)),(26,.i (((x[i.toNat]?.getD Za.zero).Track).Hits))] {} (TQ.c 27 (cmp_Compare_int (((x[k.toNat]?.getD Za.zero).Track).Hits) (((x[i.toNat]?.getD Za.zero).Track).Hits)) (fun r2=>.i r2) (fun w _=>Ya (((x[k.toNat]?.getD Za.zero).Track).Hits) (((x[i.toNat]?.getD Za.zero).Track).Hits) w) rfl {} (fun r2 hr2=>TQ.r 14 [0,1] [(29,.i (((x[i.toNat]?.getD Za.zero).Track).ID)),(31,.i (((x[k.toNat]?.getD Za.zero).Track).ID))] {} (TQ.c 32 (cmp_Compare_int (((x[i.toNat]?.getD Za.zero).Track).ID) (((x[k.toNat]?.getD Za.zero).Track).ID)) (fun r3=>.i r3) (fun w _=>Ya (((x[i.toNat]?.getD Za.zero).Track).ID) (((x[k.toNat]?.getD Za.zero).Track).ID) w) rfl {} (fun r3 hr3=>TQ.r 17 [] [(33,.i i),(34,.i k)] {} (TQ.c 35 (cmp_Compare_int i k) (fun r4=>.i r4) (fun w _=>Ya i k w) rfl {} (fun r4 hr4=>TQ.tail rfl (TL.nw 36 (fun b3=>.slice (Pa b3) 4 4) (fun b3=>Bk b3 #[.i r1,.i r2,.i r3,.i r4] 3) (fun b3=>{}) (fun b3=>TL.c 37 (QW ([r1,r2,r3,r4])) (fun r5=>.i r5) (fun w hM=>VB (Pa b3) 4 ([r1,r2,r3,r4]) w (Rd.lit hM 0 _ rfl Kr Kr Kr) (Nat.le_refl _)) {} (fun r5 hr5=>TL.r 22 [] [(5,.b (decide (r5<0)))] {} (TL.next rfl (TC.ret (TE.ret [] (.b (decide (r5<0))) {} (by unfold Ks;refine eS (fun z=>(.b z:Value)) ?_;subst hr1 hr2 hr3 hr4 hr5;exact rfl)))))))))))))))))))
def QO:List Za→Nat→((Unit) ⊕ ((List Za)×Int))
 | [],_=>.inl ()
 | x::xs,k=>let r1:=Z2 x
  cond (r1 != 0) (
   .inr ([],r1)) (
   QO xs (k+1))
def XH (l:List Za) (band:Int) (k_2:Nat) (x_2:Za):List Za→Nat→Bool→Bool
 | [],_,keep=>keep
 | x_3::xs,k_3,keep=>cond ((k_3:Int) != (k_2:Int)) (
   let r3:=Js x_2 x_3 band
   cond ((r3&&(x_2.Track.Code==x_3.Track.Code))&&(x_2.Track.Code != (-1))) (
    let r4:=Ks (k_3:Int) (k_2:Int) l
    cond r4 (
     XH l band k_2 x_2 xs (k_3+1) false) (
     XH l band k_2 x_2 xs (k_3+1) keep)) (
    XH l band k_2 x_2 xs (k_3+1) keep)) (
   XH l band k_2 x_2 xs (k_3+1) keep)
def XX (l:List Za) (band:Int):List Za→Nat→(List Za)→(List Za)
 | [],_,out=>out
 | x_2::xs,k_2,out=>Y1 (XH l band k_2 x_2 l 0 true) (fun keep_2 =>
   cond keep_2 (
    XX l band xs (k_2+1) (out++([x_2]))) (
    XX l band xs (k_2+1) out))
def Xh (l:List Za) (band:Int):List Za×Int :=
 cond (decide ((l.length:Int)>32)) (
  ([],2)) (
  Sum.elim (fun _ =>
   let r2:=J8 band
   cond r2 (
    ([],4)) (
    Y1 (XX l band l 0 ([]:List Za)) (fun out_2 =>
     (out_2,0)))) (fun r=>r) (QO l 0))
set_option maxHeartbeats 4000000 in
set_option maxRecDepth 100000 in
theorem Be (A_l:Option Addr) (c_l:Nat) (l:List Za) (band:Int) (w:World) (h_l:Rd w 20 A_l (l.map Za.c)) (hc_l:l.length≤c_l):Calls Tryz.prog 114 #[.slice A_l l.length c_l,.int .i64 band] w (QQ (Γ:=(Option Addr×Nat)) (cx w) (fun g=>.tuple #[.slice g.1 ((Xh l band).1.length) g.2,.int .i64 ((Xh l band).2)]) (fun g=>[.inr (Own g.1 g.2 44 20 (((Xh l band).1).map Za.c))])):=by
 have s_l:=h_l.short;rw[List.length_map] at s_l
 refine Zj (vs:=[.slice A_l l.length c_l,.i band]) (w:=w) Tryz.func114 rfl Tryz.ntmps114 rfl (TC.sr (TL.nw 2 (fun b1=>.p0 b1) (fun b1=>Bk b1 #[.slice A_l l.length c_l] 31) (fun b1=>{}) (fun b1=>TL.r 3 [] [(4,.slice none 0 0),(5,.i 0)] {} (TL.ns (TC.sr (TL.r 3 [0] [(18,.b (decide ((l.length:Int)>32)))] {} (TL.next rfl (TC.cond (decide ((l.length:Int)>32)) rfl Kr (fun h1=>?_) (fun h1=>?_)))))))))
 ·refine TC.sr (TL.r 2 [] [(4,.slice none 0 0),(5,.i 2)] {} (TL.next rfl (TC.ret (TE.rt ?_))))
  have e:Xh l band=([],2):=by unfold Xh;exact Zi h1 (rfl)
  refine TE.conv [Ow none 0 44 20 (([]:List Za).map Za.c),Bk b1 #[.slice A_l l.length c_l] 31] (fun _ hM=>hM.emptyrow none 44 20) ?_
  rw[e]
  exact TE.retM (.inl rfl) (none,0) [] (.tuple #[.slice none 0 0,.i 2]) {} rfl (fun _ hM=>hM.sub (sb 1))
 ·have q1_0:=(Zq h1)
  refine TC.sn (TC.seq (TC.sr (TL.r 3 [0] [(19,.slice A_l l.length c_l),(20,.i (l.length:Int)),(21,.i 0)] {} (TL.next rfl ?_))))
  obtain⟨R2,hR⟩:∃ R,R=QO l 0:=⟨_,rfl⟩
  refine TC.cut (S:=Unit) (fun (_:Unit)=>[(1,.i band),(2,.p0 b1)]) (fun (_:Unit)=>[Bk b1 #[.slice A_l l.length c_l] 31]) (fun (_:Unit)=>R2=.inl ()) ?_ ?_
  ·refine TC.block (TC.lw (X:=Nat) (fun k=>[(1,.i band),(2,.p0 b1),(19,.slice A_l l.length c_l),(20,.i (l.length:Int)),(21,.i (k:Int))]) (fun k=>[Bk b1 #[.slice A_l l.length c_l] 31]) (fun k=>l.length-k) (fun k=>k≤l.length∧R2=QO (l.drop k) k) ?_ 0 ⟨Nat.zero_le _,hR⟩ Kr (sb 1))
   rintro k ⟨hk,hI⟩
   refine TC.sr (TL.r 1 [] [(22,.b (decide ((k:Int)<(l.length:Int))))] {} (TL.ns (TC.cond (decide ((k:Int)<(l.length:Int))) rfl Kr (fun h2=>?_) (fun h2=>?_))))
   ·have hlt:=ltN h2
    obtain⟨x,hx⟩:=elN hlt
    have hd:=drop_at hx
    refine TC.sn (TC.seq (TC.block (TC.sr (TL.v (sV (Instr.indexAt 31 (.slice A_l l.length c_l) (.i (k:Int)))) 23 (.pointer (some (Ix A_l (k*20)))) (fun w hM=>Zr (h_l.sat hM) (by simp) Kr sd sd) {} (TL.v (sV (Instr.loadAt 44 (.pointer (some (Ix A_l (k*20)))))) 24 (Za.v x) (fun w hM=>Z7 (n:=20) (off:=0) (i:=k) (Za.v x) (h_l.sat hM) (ZA hx) Kr Kr Kr) {} (TL.nw 7 (fun b2=>.p0 b2) (fun b2=>Bk b2 (Za.c Za.zero) 44) (fun b2=>{}) (fun b2=>TL.s 0 (Bk b2 (Za.c x) 44) (fun _=>{}) (TL.nr (TL.r 1 [0] [(25,Za.v x)] {} (TL.c 26 (Z2 x) (fun r1=>.i r1) (fun w _=>XG x w) {} (fun r1 hr1=>TL.r 3 [] [(8,.i r1)] {} (TL.nr (TL.r 2 [] [(28,.b (r1 != 0))] {} (TL.next rfl (TC.cond (r1 != 0) rfl Kr (fun h3=>?_) (fun h3=>?_))))))))))))))))
    ·refine TC.sr (TL.r 3 [] [(4,.slice none 0 0),(5,.i r1)] {} (TL.next rfl (TC.ret (TE.rb (TE.rt (TE.rt (TE.rb (TE.rt (TE.rt ?_)))))))))
     have e:Xh l band=([],r1):=by subst hr1;unfold Xh;exact Zb h1 (X2 (hR.symm.trans (hI.trans (by rw[hd];exact Zi h3 (rfl)))) rfl)
     refine TE.conv [Ow none 0 44 20 (([]:List Za).map Za.c),Bk b2 (Za.c x) 44,Bk b1 #[.slice A_l l.length c_l] 31] (fun _ hM=>hM.emptyrow none 44 20) ?_
     rw[e]
     exact TE.retM (.inl rfl) (none,0) [] (.tuple #[.slice none 0 0,.i r1]) {} rfl (fun _ hM=>hM.sub (sb 1))
    ·have q3_0:=(Ql h3)
     exact TC.skip (TE.nb (TE.next (TC.region (TL.r 2 [] [(21,.i (w64 ((k:Int)+1)))] {} (TL.done rfl (TE.rw 21 (.i (w64 ((k:Int)+1))) (.i ((k+1:Nat):Int)) Kr (ZD k (by omega)) (TE.again (x:=k) (k+1) ⟨by omega,hI.trans (by subst hr1;rw[hd];exact Zb h3 (rfl))⟩ (mN hlt) Kr (sb 2))))))))
   ·have hd:=XO h2
    refine TC.exit (TE.et (TE.et (TE.exit_same ?_)))
    exact TE.cut () (hI.trans (by rw[hd];exact rfl)) Kr (sb 1)
  ·intro _ hJ
   refine TE.next (TC.seq (TC.sr (TL.r 1 [] [(31,.i band)] {} (TL.c 32 (J8 band) (fun r2=>.b r2) (fun w _=>Gk band w) {} (fun r2 hr2=>TL.next rfl (TC.cond r2 rfl Kr (fun h4=>?_) (fun h4=>?_)))))))
   ·refine TC.sr (TL.r 2 [] [(4,.slice none 0 0),(5,.i 4)] {} (TL.next rfl (TC.ret (TE.rt ?_))))
    have e:Xh l band=([],4):=by subst hr2;unfold Xh;exact Zb h1 (XE (hR.symm.trans hJ) (Zi h4 (rfl)))
    refine TE.conv [Ow none 0 44 20 (([]:List Za).map Za.c),Bk b1 #[.slice A_l l.length c_l] 31] (fun _ hM=>hM.emptyrow none 44 20) ?_
    rw[e]
    exact TE.retM (.inl rfl) (none,0) [] (.tuple #[.slice none 0 0,.i 4]) {} rfl (fun _ hM=>hM.sub (sb 1))
   ·refine TC.snr (TL.r 2 [] [(9,.func (.func 157) #[] #[.p0 b1])] {} (TL.nr (TL.r 1 [] [(10,.slice none 0 0)] {} (TL.ns (TC.sr (TL.r 3 [0] [(34,.slice A_l l.length c_l),(35,.i (l.length:Int)),(36,.i 0)] {} (TL.next rfl (TC.conv [Ow none 0 44 20 (([]:List Za).map Za.c),Bk b1 #[.slice A_l l.length c_l] 31] (fun _ hM=>hM.emptyrow none 44 20) ?_))))))))
    obtain⟨R6,hR_2⟩:∃ R,R=XX l band l 0 ([]:List Za):=⟨_,rfl⟩
    refine TC.cut (S:=(List Za)×(Option Addr)×Nat) (fun (out_2,A_out_2,c_out_2)=>[(10,.slice A_out_2 out_2.length c_out_2)]) (fun (out_2,A_out_2,c_out_2)=>[Ow A_out_2 c_out_2 44 20 (out_2.map Za.c)]) (fun (out_2,A_out_2,c_out_2)=>R6=out_2∧out_2.length≤l.length) ?_ ?_
    ·refine TC.block (TC.lw (X:=Nat×(List Za)×(Option Addr)×Nat) (fun (k_2,out,A_out,c_out)=>[(1,.i band),(2,.p0 b1),(9,.func (.func 157) #[] #[.p0 b1]),(10,.slice A_out out.length c_out),(34,.slice A_l l.length c_l),(35,.i (l.length:Int)),(36,.i (k_2:Int))]) (fun (k_2,out,A_out,c_out)=>[Ow A_out c_out 44 20 (out.map Za.c),Bk b1 #[.slice A_l l.length c_l] 31]) (fun (k_2,out,A_out,c_out)=>l.length-k_2) (fun (k_2,out,A_out,c_out)=>k_2≤l.length∧R6=XX l band (l.drop k_2) k_2 out∧out.length≤k_2) ?_ (0,([]:List Za),none,0) ⟨Nat.zero_le _,hR_2,sz⟩ Kr (sb 3))
     rintro⟨k_2,out,A_out,c_out⟩ ⟨hk_2,hI_2,hl_out⟩
     refine TC.sr (TL.r 1 [] [(37,.b (decide ((k_2:Int)<(l.length:Int))))] {} (TL.ns (TC.cond (decide ((k_2:Int)<(l.length:Int))) rfl Kr (fun h5=>?_) (fun h5=>?_))))
     ·have hlt_2:=ltN h5
      obtain⟨x_2,hx_2⟩:=elN hlt_2
      have hd_2:=drop_at hx_2
      refine TC.sn (TC.seq (TC.block (TC.sr (TL.r 1 [] [(38,.i (k_2:Int))] {} (TL.v (sV (Instr.indexAt 31 (.slice A_l l.length c_l) (.i (k_2:Int)))) 39 (.pointer (some (Ix A_l (k_2*20)))) (fun w hM=>Zr (h_l.sat hM) (by simp) Kr sd sd) {} (TL.v (sV (Instr.loadAt 44 (.pointer (some (Ix A_l (k_2*20)))))) 40 (Za.v x_2) (fun w hM=>Z7 (n:=20) (off:=0) (i:=k_2) (Za.v x_2) (h_l.sat hM) (ZA hx_2) Kr Kr Kr) {} (TL.nw 12 (fun b3=>.p0 b3) (fun b3=>Bk b3 (Za.c Za.zero) 44) (fun b3=>{}) (fun b3=>TL.r 5 [] [(11,.i (k_2:Int))] {} (TL.s 0 (Bk b3 (Za.c x_2) 44) (fun _=>{}) (TL.nr (TL.r 1 [] [(13,.b true)] {} (TL.ns (TC.sr (TL.r 3 [2] [(41,.slice A_l l.length c_l),(42,.i (l.length:Int)),(43,.i 0)] {} (TL.next rfl ?_)))))))))))))))
      obtain⟨R7,hR_3⟩:∃ R,R=XH l band k_2 x_2 l 0 true:=⟨_,rfl⟩
      refine TC.cut (S:=Bool) (fun keep_2=>[(1,.i band),(2,.p0 b1),(9,.func (.func 157) #[] #[.p0 b1]),(10,.slice A_out out.length c_out),(12,.p0 b3),(13,.b keep_2),(34,.slice A_l l.length c_l),(35,.i (l.length:Int)),(36,.i (k_2:Int))]) (fun keep_2=>[Bk b3 (Za.c x_2) 44,Ow A_out c_out 44 20 (out.map Za.c),Bk b1 #[.slice A_l l.length c_l] 31]) (fun keep_2=>R7=keep_2) ?_ ?_
      ·refine TC.block (TC.lw (X:=Nat×Bool) (fun (k_3,keep)=>[(1,.i band),(2,.p0 b1),(9,.func (.func 157) #[] #[.p0 b1]),(10,.slice A_out out.length c_out),(11,.i (k_2:Int)),(12,.p0 b3),(13,.b keep),(34,.slice A_l l.length c_l),(35,.i (l.length:Int)),(36,.i (k_2:Int)),(41,.slice A_l l.length c_l),(42,.i (l.length:Int)),(43,.i (k_3:Int))]) (fun (k_3,keep)=>[Bk b3 (Za.c x_2) 44,Ow A_out c_out 44 20 (out.map Za.c),Bk b1 #[.slice A_l l.length c_l] 31]) (fun (k_3,keep)=>l.length-k_3) (fun (k_3,keep)=>k_3≤l.length∧R7=XH l band k_2 x_2 (l.drop k_3) k_3 keep) ?_ (0,true) ⟨Nat.zero_le _,hR_3⟩ Kr (sb 7))
       rintro⟨k_3,keep⟩ ⟨hk_3,hI_3⟩
       refine TC.sr (TL.r 1 [] [(44,.b (decide ((k_3:Int)<(l.length:Int))))] {} (TL.ns (TC.cond (decide ((k_3:Int)<(l.length:Int))) rfl Kr (fun h6=>?_) (fun h6=>?_))))
       ·have hlt_3:=ltN h6
        obtain⟨x_3,hx_3⟩:=elN hlt_3
        have hd_3:=drop_at hx_3
        refine TC.sn (TC.seq (TC.block (TC.sr (TL.r 1 [] [(45,.i (k_3:Int))] {} (TL.v (sV (Instr.indexAt 31 (.slice A_l l.length c_l) (.i (k_3:Int)))) 46 (.pointer (some (Ix A_l (k_3*20)))) (fun w hM=>Zr (h_l.sat hM) (by simp) Kr sd sd) {} (TL.v (sV (Instr.loadAt 44 (.pointer (some (Ix A_l (k_3*20)))))) 47 (Za.v x_3) (fun w hM=>Z7 (n:=20) (off:=0) (i:=k_3) (Za.v x_3) (h_l.sat hM) (ZA hx_3) Kr Kr Kr) {} (TL.nw 15 (fun b4=>.p0 b4) (fun b4=>Bk b4 (Za.c Za.zero) 44) (fun b4=>{}) (fun b4=>TL.r 5 [] [(14,.i (k_3:Int))] {} (TL.s 0 (Bk b4 (Za.c x_3) 44) (fun _=>{}) (TL.nr (TL.r 4 [] [(51,.b ((k_3:Int) != (k_2:Int)))] {} (TL.split 51 ((k_3:Int) != (k_2:Int)) Kr (fun h7=>?_) (fun h7=>?_)))))))))))))
        ·have q7_0:=(Ld h7)
         refine TL.r 7 [1,0] [(52,Za.v x_2),(53,Za.v x_3),(54,.i band)] {} (TL.c 55 (Js x_2 x_3 band) (fun r3=>.b r3) (fun w _=>FP x_2 x_3 band w) {} (fun r3 hr3=>TL.r 10 [] [(57,.b r3)] {} (TL.j 57 r3 18 [1,0] [] (fun β=>[(65,.b (β&&(x_2.Track.Code==x_3.Track.Code)))]) Kr {} {} (TL.r 19 [] [(66,.b (r3&&(x_2.Track.Code==x_3.Track.Code)))] {} (TL.j 66 (r3&&(x_2.Track.Code==x_3.Track.Code)) 24 [1] [] (fun β=>[(71,.b (β&&(x_2.Track.Code != (-1))))]) Kr {} {} (TL.r 25 [] [(72,.b ((r3&&(x_2.Track.Code==x_3.Track.Code))&&(x_2.Track.Code != (-1))))] {} (TL.split 72 ((r3&&(x_2.Track.Code==x_3.Track.Code))&&(x_2.Track.Code != (-1))) Kr (fun h8=>?_) (fun h8=>?_))))))))
         ·have q8_0:=(Y9 (Jg (Qv h8)))
          have q8_1:=(Ld (Jg h8))
          refine TL.r 28 [] [(73,.func (.func 157) #[] #[.p0 b1]),(74,.i (k_3:Int)),(75,.i (k_2:Int))] {} (TL.c 76 (Ks (k_3:Int) (k_2:Int) l) (fun r4=>.b r4) (fun w hM=>W2 (k_3:Int) (k_2:Int) ⟨b1,0,none⟩ A_l c_l l w (Rd.lit hM 3 _ rfl Kr Kr Kr) ⟨(h_l.sat hM),hc_l⟩ sg sg) {} (fun r4 hr4=>TL.r 30 [] [(77,.b r4)] {} (TL.next rfl (TC.cond r4 rfl Kr (fun h9=>?_) (fun h9=>?_)))))
          ·exact TC.region (TL.r 1 [] [(13,.b false)] {} (TL.done rfl (TE.nb (TE.next (TC.region (TL.r 2 [] [(43,.i (w64 ((k_3:Int)+1)))] {} (TL.done rfl (TE.rw 43 (.i (w64 ((k_3:Int)+1))) (.i ((k_3+1:Nat):Int)) Kr (ZD k_3 (by omega)) (TE.again (x:=(k_3,keep)) (k_3+1,false) ⟨by omega,hI_3.trans (by subst hr2 hr3 hr4;rw[hd_3];exact Zi h7 (Zi h8 (Zi h9 (rfl))))⟩ (mN hlt_3) Kr (sb 14))))))))))
          ·exact TC.skip (TE.nb (TE.next (TC.region (TL.r 2 [] [(43,.i (w64 ((k_3:Int)+1)))] {} (TL.done rfl (TE.rw 43 (.i (w64 ((k_3:Int)+1))) (.i ((k_3+1:Nat):Int)) Kr (ZD k_3 (by omega)) (TE.again (x:=(k_3,keep)) (k_3+1,keep) ⟨by omega,hI_3.trans (by subst hr2 hr3 hr4;rw[hd_3];exact Zi h7 (Zi h8 (Zb h9 (rfl))))⟩ (mN hlt_3) Kr (sb 14))))))))
         ·exact TL.r 30 [] [(77,.b false)] {} (TL.next rfl (TC.condF rfl Kr (TC.skip (TE.nb (TE.next (TC.region (TL.r 2 [] [(43,.i (w64 ((k_3:Int)+1)))] {} (TL.done rfl (TE.rw 43 (.i (w64 ((k_3:Int)+1))) (.i ((k_3+1:Nat):Int)) Kr (ZD k_3 (by omega)) (TE.again (x:=(k_3,keep)) (k_3+1,keep) ⟨by omega,hI_3.trans (by subst hr2 hr3;rw[hd_3];exact Zi h7 (Zb h8 (rfl)))⟩ (mN hlt_3) Kr (sb 14)))))))))))
        ·have q7_0:=(Ql h7)
         exact TL.r 30 [] [(77,.b false)] {} (TL.next rfl (TC.condF rfl Kr (TC.skip (TE.nb (TE.next (TC.region (TL.r 2 [] [(43,.i (w64 ((k_3:Int)+1)))] {} (TL.done rfl (TE.rw 43 (.i (w64 ((k_3:Int)+1))) (.i ((k_3+1:Nat):Int)) Kr (ZD k_3 (by omega)) (TE.again (x:=(k_3,keep)) (k_3+1,keep) ⟨by omega,hI_3.trans (by subst hr2;rw[hd_3];exact Zb h7 (rfl))⟩ (mN hlt_3) Kr (sb 14)))))))))))
       ·have hd_3:=XO h6
        refine TC.exit (TE.et (TE.et (TE.exit_same ?_)))
        exact TE.cut keep (hI_3.trans (by subst hr2;rw[hd_3];exact rfl)) Kr (sb 7)
      ·rintro keep_2 hJ_3
       refine TE.nr (TL.r 1 [] [(79,.b keep_2)] {} (TL.next rfl (TC.cond keep_2 rfl Kr (fun h10=>?_) (fun h10=>?_))))
       ·refine TC.region (TL.r 2 [0] [(80,.slice A_out out.length c_out),(81,Za.v x_2)] {} (TL.nw 82 (fun b5=>.slice (Pa b5) 1 1) (fun b5=>Bk b5 (Za.c x_2) 44) (fun b5=>{}) (fun b5=>TL.os (Γ:=AN) (sV (Builtin.append_ #[31,31] 31 #[.slice A_out out.length c_out,.slice (Pa b5) 1 1])) 83 (fun g=>.slice g.1 (out++([x_2])).length g.2) 2 (fun g=>Ow g.1 g.2 44 20 ((out++([x_2])).map Za.c)) (Qw (bytes:=160) 31 2 ([x_2]) Kr rfl rfl Za.one rfl (fun w hM=>(Rd.lit hM 0 _ rfl Kr Kr Kr)) rfl sa) {} ?_)))
        rintro⟨A,c⟩
        exact TL.r 5 [] [(10,.slice A ((out++([x_2])).length) c)] {} (TL.done rfl (TE.nb (TE.next (TC.region (TL.r 2 [] [(36,.i (w64 ((k_2:Int)+1)))] {} (TL.done rfl (TE.rw 36 (.i (w64 ((k_2:Int)+1))) (.i ((k_2+1:Nat):Int)) Kr (ZD k_2 (by omega)) (TE.again (x:=(k_2,out,A_out,c_out)) (k_2+1,(out++([x_2])),A,c) ⟨by omega,hI_2.trans (by subst hr2;rw[hd_2];exact Yg (hR_3.symm.trans hJ_3) (Zi h10 (rfl))),sl⟩ (mN hlt_2) Kr (sb 12)))))))))
       ·exact TC.skip (TE.nb (TE.next (TC.region (TL.r 2 [] [(36,.i (w64 ((k_2:Int)+1)))] {} (TL.done rfl (TE.rw 36 (.i (w64 ((k_2:Int)+1))) (.i ((k_2+1:Nat):Int)) Kr (ZD k_2 (by omega)) (TE.again (x:=(k_2,out,A_out,c_out)) (k_2+1,out,A_out,c_out) ⟨by omega,hI_2.trans (by subst hr2;rw[hd_2];exact Yg (hR_3.symm.trans hJ_3) (Zb h10 (rfl))),sl⟩ (mN hlt_2) Kr (sb 6))))))))
     ·have hd_2:=XO h5
      refine TC.exit (TE.et (TE.et (TE.exit_same ?_)))
      exact TE.cut (out,A_out,c_out) (⟨hI_2.trans (by subst hr2;rw[hd_2];exact rfl),sl⟩) Kr (sb 1)
    ·rintro⟨out_2,A_out_2,c_out_2⟩ ⟨hJ_2,hl_out_2⟩
     refine TE.nr (TL.r 3 [] [(4,.slice A_out_2 out_2.length c_out_2),(5,.i 0)] {} (TL.next rfl (TC.ret ?_)))
     have e:Xh l band=(out_2,0):=by subst hr2;unfold Xh;exact Zb h1 (XE (hR.symm.trans hJ) (Zb h4 (Yg (hR_2.symm.trans hJ_2) (rfl))))
     rw[e]
     exact TE.retM (.inl rfl) (A_out_2,c_out_2) [] (.tuple #[.slice A_out_2 out_2.length c_out_2,.i 0]) {} rfl (fun _ hM=>hM.sub (sb 1))
end Go.Sky
end
