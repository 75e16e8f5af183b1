/- Lemmas toward the given statement (part 4 of 20): Wd PlanB Tb. Each theorem states its own conditions; nothing is assumed beyond them. -/
import Derived.Test.YtjggkpkehdnhiaaGreatDoorBp03
import Derived.Test.YtjggkpkehdnhiaaGreatDoorBp02
set_option maxRecDepth 100000
section
namespace Go.Sky
open Go Go.Eng Go.Proofs
def Xt (f:Za) (xu:Int):Za×Bool×Int :=
 let r1:=ZP f
 cond (r1 != 0) (
  ((⟨⟨0,0,0,⟨0,0⟩,⟨0,0⟩,0,0,0,0,0,0⟩,0,⟨0,⟨0,0⟩,0,0,0⟩⟩:Za),false,r1)) (
  cond ((decide (xu<0))||(decide (xu>100))) (
   ((⟨⟨0,0,0,⟨0,0⟩,⟨0,0⟩,0,0,0,0,0,0⟩,0,⟨0,⟨0,0⟩,0,0,0⟩⟩:Za),false,4)) (
   cond (decide (f.Track.Misses<101)) (
    cond (f.Track.State==1) (
     ((⟨⟨f.Track.ID,2,f.Track.Time,f.Track.At,f.Track.Speed,f.Track.Height,f.Track.Rate,f.Track.Radius,f.Track.Code,f.Track.Hits,w64 (f.Track.Misses+1)⟩,f.Slack,f.Last⟩:Za),decide ((w64 (f.Track.Misses+1))>xu),0)) (
     ((⟨⟨f.Track.ID,f.Track.State,f.Track.Time,f.Track.At,f.Track.Speed,f.Track.Height,f.Track.Rate,f.Track.Radius,f.Track.Code,f.Track.Hits,w64 (f.Track.Misses+1)⟩,f.Slack,f.Last⟩:Za),decide ((w64 (f.Track.Misses+1))>xu),0))) (
    cond (f.Track.State==1) (
     ((⟨⟨f.Track.ID,2,f.Track.Time,f.Track.At,f.Track.Speed,f.Track.Height,f.Track.Rate,f.Track.Radius,f.Track.Code,f.Track.Hits,101⟩,f.Slack,f.Last⟩:Za),decide (101>xu),0)) (
     ((⟨⟨f.Track.ID,f.Track.State,f.Track.Time,f.Track.At,f.Track.Speed,f.Track.Height,f.Track.Rate,f.Track.Radius,f.Track.Code,f.Track.Hits,101⟩,f.Slack,f.Last⟩:Za),decide (101>xu),0)))))
set_option maxHeartbeats 4000000 in
theorem N2 (f:Za) (xu:Int) (w:World):Calls Tryz.prog 55 #[Za.v f,.int .i64 xu] w (Ret w (.tuple #[Za.v ((Xt f xu).1),.bool ((Xt f xu).2.1),.int .i64 ((Xt f xu).2.2)])):=by
 refine Zp (vs:=[Za.v f,.i xu]) (w:=w) Tryz.func55 rfl Tryz.ntmps55 rfl (Zf (ZA 2 (fun b1=>.p0 b1) (fun b1=>Bk b1 (Za.c f) 44) (fun b1=>{}) (fun b1=>ZA 4 (fun b2=>.p0 b2) (fun b2=>Bk b2 (Za.c Za.zero) 44) (fun b2=>{}) (fun b2=>Zc 4 [] [(5,.b false),(6,.i 0)] {} (Z1 (Zf (Zc 1 [1] [(8,Za.v f)] {} (TL.c 9 (ZP f) (fun r1=>.i r1) (fun w _=>QS f w) {} (fun r1 hr1=>Zc 3 [] [(7,.i r1)] {} (Zz (Zc 2 [] [(11,.b (r1 != 0))] {} (Zb rfl (TC.cond (r1 != 0) rfl Kr (fun h1=>?_) (fun h1=>?_))))))))))))))
 ·exact Zf (Zc 2 [] [(12,Za.v Za.zero),(13,.i r1)] {} (Yp 0 (Bk b2 (Za.c Za.zero) 44) (fun _=>{}) (Zc 5 [] [(5,.b false),(6,.i r1)] {} (Zb rfl (TC.ret (Zo (TE.ret [0] (.tuple #[Za.v (⟨⟨0,0,0,⟨0,0⟩,⟨0,0⟩,0,0,0,0,0,0⟩,0,⟨0,⟨0,0⟩,0,0,0⟩⟩:Za),.b false,.i r1]) {} (by unfold Xt;refine eS (a:=((⟨⟨0,0,0,⟨0,0⟩,⟨0,0⟩,0,0,0,0,0,0⟩,0,⟨0,⟨0,0⟩,0,0,0⟩⟩:Za),false,r1)) (fun (z:Za×Bool×Int)=>(.tuple #[Za.v z.1,.b z.2.1,.i z.2.2]:Value)) ?_;subst hr1;exact Zm h1 (rfl)))))))))
 ·refine Yg (TC.seq (Zf (Zc 3 [] [(16,.b (decide (xu<0)))] {} (XM 16 (decide (xu<0)) 6 [] [] (fun β=>[(19,.b (β||(decide (xu>100))))]) Kr {} {} (Zb rfl (TC.cond ((decide (xu<0))||(decide (xu>100))) rfl Kr (fun h2=>?_) (fun h2=>?_)))))))
  ·exact Zf (Zc 1 [] [(20,Za.v Za.zero)] {} (Yp 0 (Bk b2 (Za.c Za.zero) 44) (fun _=>{}) (Zc 4 [] [(5,.b false),(6,.i 4)] {} (Zb rfl (TC.ret (Zo (TE.ret [0] (.tuple #[Za.v (⟨⟨0,0,0,⟨0,0⟩,⟨0,0⟩,0,0,0,0,0,0⟩,0,⟨0,⟨0,0⟩,0,0,0⟩⟩:Za),.b false,.i 4]) {} (by unfold Xt;refine eS (a:=((⟨⟨0,0,0,⟨0,0⟩,⟨0,0⟩,0,0,0,0,0,0⟩,0,⟨0,⟨0,0⟩,0,0,0⟩⟩:Za),false,4)) (fun (z:Za×Bool×Int)=>(.tuple #[Za.v z.1,.b z.2.1,.i z.2.2]:Value)) ?_;subst hr1;exact Ze h1 (Zm h2 (rfl))))))))))
  ·refine Yg (TC.seq (Zf (Zc 4 [1] [(24,.b (decide (f.Track.Misses<101)))] {} (Zb rfl (TC.cond (decide (f.Track.Misses<101)) rfl Kr (fun h3=>?_) (fun h3=>?_))))))
   ·refine TC.region (Zc 6 [1] [(28,.i (w64 (f.Track.Misses+1))),(30,.pt b1 12)] {} (Yp 1 (Bk b1 (Za.c (⟨⟨f.Track.ID,f.Track.State,f.Track.Time,f.Track.At,f.Track.Speed,f.Track.Height,f.Track.Rate,f.Track.Radius,f.Track.Code,f.Track.Hits,w64 (f.Track.Misses+1)⟩,f.Slack,f.Last⟩:Za)) 44) (fun _=>{}) (Z1 (Zf (Zc 4 [1] [(36,.b (f.Track.State==1))] {} (Zb rfl (TC.cond (f.Track.State==1) rfl Kr (fun h4=>?_) (fun h4=>?_))))))))
    ·exact TC.region (Zc 2 [] [(38,.pt b1 1)] {} (Yp 1 (Bk b1 (Za.c (⟨⟨f.Track.ID,2,f.Track.Time,f.Track.At,f.Track.Speed,f.Track.Height,f.Track.Rate,f.Track.Radius,f.Track.Code,f.Track.Hits,w64 (f.Track.Misses+1)⟩,f.Slack,f.Last⟩:Za)) 44) (fun _=>{}) (Z1 (GG 6 [Bk b1 (Za.c (⟨⟨f.Track.ID,2,f.Track.Time,f.Track.At,f.Track.Speed,f.Track.Height,f.Track.Rate,f.Track.Radius,f.Track.Code,f.Track.Hits,w64 (f.Track.Misses+1)⟩,f.Slack,f.Last⟩:Za)) 44] [Bk b2 (Za.c (⟨⟨f.Track.ID,2,f.Track.Time,f.Track.At,f.Track.Speed,f.Track.Height,f.Track.Rate,f.Track.Radius,f.Track.Code,f.Track.Hits,w64 (f.Track.Misses+1)⟩,f.Slack,f.Last⟩:Za)) 44,Bk b1 (Za.c (⟨⟨f.Track.ID,2,f.Track.Time,f.Track.At,f.Track.Speed,f.Track.Height,f.Track.Rate,f.Track.Radius,f.Track.Code,f.Track.Hits,w64 (f.Track.Misses+1)⟩,f.Slack,f.Last⟩:Za)) 44] (sb 2) (sb 2) Kr Kr (TG.run 6 [0,0] [(4,.p0 b2),(39,Za.v (⟨⟨f.Track.ID,2,f.Track.Time,f.Track.At,f.Track.Speed,f.Track.Height,f.Track.Rate,f.Track.Radius,f.Track.Code,f.Track.Hits,w64 (f.Track.Misses+1)⟩,f.Slack,f.Last⟩:Za)),(44,.b (decide ((w64 (f.Track.Misses+1))>xu)))] rfl rfl rfl {} (TG.store 0 rfl (fun _=>{}) (TG.run 9 [] [(4,.p0 b2),(5,.b (decide ((w64 (f.Track.Misses+1))>xu))),(6,.i 0)] rfl rfl rfl {} (GY rfl rfl (TC.ret (TE.ret [0] (.tuple #[Za.v (⟨⟨f.Track.ID,2,f.Track.Time,f.Track.At,f.Track.Speed,f.Track.Height,f.Track.Rate,f.Track.Radius,f.Track.Code,f.Track.Hits,w64 (f.Track.Misses+1)⟩,f.Slack,f.Last⟩:Za),.b (decide ((w64 (f.Track.Misses+1))>xu)),.i 0]) {} (by unfold Xt;refine eS (a:=((⟨⟨f.Track.ID,2,f.Track.Time,f.Track.At,f.Track.Speed,f.Track.Height,f.Track.Rate,f.Track.Radius,f.Track.Code,f.Track.Hits,w64 (f.Track.Misses+1)⟩,f.Slack,f.Last⟩:Za),decide ((w64 (f.Track.Misses+1))>xu),0)) (fun (z:Za×Bool×Int)=>(.tuple #[Za.v z.1,.b z.2.1,.i z.2.2]:Value)) ?_;subst hr1;exact Ze h1 (Ze h2 (Zm h3 (Zm h4 (rfl)))))))))))))))
    ·exact Yg (TC.seq (GG 6 [Bk b1 (Za.c (⟨⟨f.Track.ID,f.Track.State,f.Track.Time,f.Track.At,f.Track.Speed,f.Track.Height,f.Track.Rate,f.Track.Radius,f.Track.Code,f.Track.Hits,w64 (f.Track.Misses+1)⟩,f.Slack,f.Last⟩:Za)) 44] [Bk b2 (Za.c (⟨⟨f.Track.ID,f.Track.State,f.Track.Time,f.Track.At,f.Track.Speed,f.Track.Height,f.Track.Rate,f.Track.Radius,f.Track.Code,f.Track.Hits,w64 (f.Track.Misses+1)⟩,f.Slack,f.Last⟩:Za)) 44,Bk b1 (Za.c (⟨⟨f.Track.ID,f.Track.State,f.Track.Time,f.Track.At,f.Track.Speed,f.Track.Height,f.Track.Rate,f.Track.Radius,f.Track.Code,f.Track.Hits,w64 (f.Track.Misses+1)⟩,f.Slack,f.Last⟩:Za)) 44] (sb 2) (sb 2) Kr Kr (TG.run 6 [0,0] [(4,.p0 b2),(39,Za.v (⟨⟨f.Track.ID,f.Track.State,f.Track.Time,f.Track.At,f.Track.Speed,f.Track.Height,f.Track.Rate,f.Track.Radius,f.Track.Code,f.Track.Hits,w64 (f.Track.Misses+1)⟩,f.Slack,f.Last⟩:Za)),(44,.b (decide ((w64 (f.Track.Misses+1))>xu)))] rfl rfl rfl {} (TG.store 0 rfl (fun _=>{}) (TG.run 9 [] [(4,.p0 b2),(5,.b (decide ((w64 (f.Track.Misses+1))>xu))),(6,.i 0)] rfl rfl rfl {} (GY rfl rfl (TC.ret (TE.ret [0] (.tuple #[Za.v (⟨⟨f.Track.ID,f.Track.State,f.Track.Time,f.Track.At,f.Track.Speed,f.Track.Height,f.Track.Rate,f.Track.Radius,f.Track.Code,f.Track.Hits,w64 (f.Track.Misses+1)⟩,f.Slack,f.Last⟩:Za),.b (decide ((w64 (f.Track.Misses+1))>xu)),.i 0]) {} (by unfold Xt;refine eS (a:=((⟨⟨f.Track.ID,f.Track.State,f.Track.Time,f.Track.At,f.Track.Speed,f.Track.Height,f.Track.Rate,f.Track.Radius,f.Track.Code,f.Track.Hits,w64 (f.Track.Misses+1)⟩,f.Slack,f.Last⟩:Za),decide ((w64 (f.Track.Misses+1))>xu),0)) (fun (z:Za×Bool×Int)=>(.tuple #[Za.v z.1,.b z.2.1,.i z.2.2]:Value)) ?_;subst hr1;exact Ze h1 (Ze h2 (Zm h3 (Ze h4 (rfl)))))))))))))
   ·refine TC.region (Zc 2 [] [(32,.pt b1 12)] {} (Yp 1 (Bk b1 (Za.c (⟨⟨f.Track.ID,f.Track.State,f.Track.Time,f.Track.At,f.Track.Speed,f.Track.Height,f.Track.Rate,f.Track.Radius,f.Track.Code,f.Track.Hits,101⟩,f.Slack,f.Last⟩:Za)) 44) (fun _=>{}) (Z1 (Zf (Zc 4 [1] [(36,.b (f.Track.State==1))] {} (Zb rfl (TC.cond (f.Track.State==1) rfl Kr (fun h5=>?_) (fun h5=>?_))))))))
    ·exact TC.region (Zc 2 [] [(38,.pt b1 1)] {} (Yp 1 (Bk b1 (Za.c (⟨⟨f.Track.ID,2,f.Track.Time,f.Track.At,f.Track.Speed,f.Track.Height,f.Track.Rate,f.Track.Radius,f.Track.Code,f.Track.Hits,101⟩,f.Slack,f.Last⟩:Za)) 44) (fun _=>{}) (Z1 (GG 6 [Bk b1 (Za.c (⟨⟨f.Track.ID,2,f.Track.Time,f.Track.At,f.Track.Speed,f.Track.Height,f.Track.Rate,f.Track.Radius,f.Track.Code,f.Track.Hits,101⟩,f.Slack,f.Last⟩:Za)) 44] [Bk b2 (Za.c (⟨⟨f.Track.ID,2,f.Track.Time,f.Track.At,f.Track.Speed,f.Track.Height,f.Track.Rate,f.Track.Radius,f.Track.Code,f.Track.Hits,101⟩,f.Slack,f.Last⟩:Za)) 44,Bk b1 (Za.c (⟨⟨f.Track.ID,2,f.Track.Time,f.Track.At,f.Track.Speed,f.Track.Height,f.Track.Rate,f.Track.Radius,f.Track.Code,f.Track.Hits,101⟩,f.Slack,f.Last⟩:Za)) 44] (sb 2) (sb 2) Kr Kr (TG.run 6 [0,0] [(4,.p0 b2),(39,Za.v (⟨⟨f.Track.ID,2,f.Track.Time,f.Track.At,f.Track.Speed,f.Track.Height,f.Track.Rate,f.Track.Radius,f.Track.Code,f.Track.Hits,101⟩,f.Slack,f.Last⟩:Za)),(44,.b (decide (101>xu)))] rfl rfl rfl {} (TG.store 0 rfl (fun _=>{}) (TG.run 9 [] [(4,.p0 b2),(5,.b (decide (101>xu))),(6,.i 0)] rfl rfl rfl {} (GY rfl rfl (TC.ret (TE.ret [0] (.tuple #[Za.v (⟨⟨f.Track.ID,2,f.Track.Time,f.Track.At,f.Track.Speed,f.Track.Height,f.Track.Rate,f.Track.Radius,f.Track.Code,f.Track.Hits,101⟩,f.Slack,f.Last⟩:Za),.b (decide (101>xu)),.i 0]) {} (by unfold Xt;refine eS (a:=((⟨⟨f.Track.ID,2,f.Track.Time,f.Track.At,f.Track.Speed,f.Track.Height,f.Track.Rate,f.Track.Radius,f.Track.Code,f.Track.Hits,101⟩,f.Slack,f.Last⟩:Za),decide (101>xu),0)) (fun (z:Za×Bool×Int)=>(.tuple #[Za.v z.1,.b z.2.1,.i z.2.2]:Value)) ?_;subst hr1;exact Ze h1 (Ze h2 (Ze h3 (Zm h5 (rfl)))))))))))))))
    ·exact Yg (TC.seq (GG 6 [Bk b1 (Za.c (⟨⟨f.Track.ID,f.Track.State,f.Track.Time,f.Track.At,f.Track.Speed,f.Track.Height,f.Track.Rate,f.Track.Radius,f.Track.Code,f.Track.Hits,101⟩,f.Slack,f.Last⟩:Za)) 44] [Bk b2 (Za.c (⟨⟨f.Track.ID,f.Track.State,f.Track.Time,f.Track.At,f.Track.Speed,f.Track.Height,f.Track.Rate,f.Track.Radius,f.Track.Code,f.Track.Hits,101⟩,f.Slack,f.Last⟩:Za)) 44,Bk b1 (Za.c (⟨⟨f.Track.ID,f.Track.State,f.Track.Time,f.Track.At,f.Track.Speed,f.Track.Height,f.Track.Rate,f.Track.Radius,f.Track.Code,f.Track.Hits,101⟩,f.Slack,f.Last⟩:Za)) 44] (sb 2) (sb 2) Kr Kr (TG.run 6 [0,0] [(4,.p0 b2),(39,Za.v (⟨⟨f.Track.ID,f.Track.State,f.Track.Time,f.Track.At,f.Track.Speed,f.Track.Height,f.Track.Rate,f.Track.Radius,f.Track.Code,f.Track.Hits,101⟩,f.Slack,f.Last⟩:Za)),(44,.b (decide (101>xu)))] rfl rfl rfl {} (TG.store 0 rfl (fun _=>{}) (TG.run 9 [] [(4,.p0 b2),(5,.b (decide (101>xu))),(6,.i 0)] rfl rfl rfl {} (GY rfl rfl (TC.ret (TE.ret [0] (.tuple #[Za.v (⟨⟨f.Track.ID,f.Track.State,f.Track.Time,f.Track.At,f.Track.Speed,f.Track.Height,f.Track.Rate,f.Track.Radius,f.Track.Code,f.Track.Hits,101⟩,f.Slack,f.Last⟩:Za),.b (decide (101>xu)),.i 0]) {} (by unfold Xt;refine eS (a:=((⟨⟨f.Track.ID,f.Track.State,f.Track.Time,f.Track.At,f.Track.Speed,f.Track.Height,f.Track.Rate,f.Track.Radius,f.Track.Code,f.Track.Hits,101⟩,f.Slack,f.Last⟩:Za),decide (101>xu),0)) (fun (z:Za×Bool×Int)=>(.tuple #[Za.v z.1,.b z.2.1,.i z.2.2]:Value)) ?_;subst hr1;exact Ze h1 (Ze h2 (Ze h3 (Ze h5 (rfl)))))))))))))
def QH (f:Za):Za×Int :=
 let r1:=ZP f
 cond (r1 != 0) (
  ((⟨⟨0,0,0,⟨0,0⟩,⟨0,0⟩,0,0,0,0,0,0⟩,0,⟨0,⟨0,0⟩,0,0,0⟩⟩:Za),r1)) (
  cond (f.Track.State==2) (
   ((⟨⟨f.Track.ID,1,f.Track.Time,f.Track.At,f.Track.Speed,f.Track.Height,f.Track.Rate,f.Track.Radius,f.Track.Code,f.Track.Hits,0⟩,f.Slack,f.Last⟩:Za),0)) (
   ((⟨⟨f.Track.ID,f.Track.State,f.Track.Time,f.Track.At,f.Track.Speed,f.Track.Height,f.Track.Rate,f.Track.Radius,f.Track.Code,f.Track.Hits,0⟩,f.Slack,f.Last⟩:Za),0)))
theorem Lr (f:Za) (w:World):Calls Tryz.prog 54 #[Za.v f] w (Ret w (.tuple #[Za.v ((QH f).1),.int .i64 ((QH f).2)])):=by
 refine Zp (vs:=[Za.v f]) (w:=w) Tryz.func54 rfl Tryz.ntmps54 rfl (Zf (ZA 1 (fun b1=>.p0 b1) (fun b1=>Bk b1 (Za.c f) 44) (fun b1=>{}) (fun b1=>ZA 2 (fun b2=>.p0 b2) (fun b2=>Bk b2 (Za.c Za.zero) 44) (fun b2=>{}) (fun b2=>Zc 3 [] [(3,.i 0)] {} (Z1 (Zf (Zc 1 [1] [(5,Za.v f)] {} (TL.c 6 (ZP f) (fun r1=>.i r1) (fun w _=>QS f w) {} (fun r1 hr1=>Zc 3 [] [(4,.i r1)] {} (Zz (Zc 2 [] [(8,.b (r1 != 0))] {} (Zb rfl (TC.cond (r1 != 0) rfl Kr (fun h1=>?_) (fun h1=>?_))))))))))))))
 ·exact Zf (Zc 2 [] [(9,Za.v Za.zero),(10,.i r1)] {} (Yp 0 (Bk b2 (Za.c Za.zero) 44) (fun _=>{}) (Zc 4 [] [(3,.i r1)] {} (Zb rfl (TC.ret (Zo (TE.ret [0] (.tuple #[Za.v (⟨⟨0,0,0,⟨0,0⟩,⟨0,0⟩,0,0,0,0,0,0⟩,0,⟨0,⟨0,0⟩,0,0,0⟩⟩:Za),.i r1]) {} (by unfold QH;refine eS (a:=((⟨⟨0,0,0,⟨0,0⟩,⟨0,0⟩,0,0,0,0,0,0⟩,0,⟨0,⟨0,0⟩,0,0,0⟩⟩:Za),r1)) (fun (z:Za×Int)=>(.tuple #[Za.v z.1,.i z.2]:Value)) ?_;subst hr1;exact Zm h1 (rfl)))))))))
 ·refine Yc (Zc 2 [] [(12,.pt b1 12)] {} (Yp 1 (Bk b1 (Za.c (⟨⟨f.Track.ID,f.Track.State,f.Track.Time,f.Track.At,f.Track.Speed,f.Track.Height,f.Track.Rate,f.Track.Radius,f.Track.Code,f.Track.Hits,0⟩,f.Slack,f.Last⟩:Za)) 44) (fun _=>{}) (Z1 (Zf (Zc 4 [1] [(16,.b (f.Track.State==2))] {} (Zb rfl (TC.cond (f.Track.State==2) rfl Kr (fun h2=>?_) (fun h2=>?_))))))))
  ·exact TC.region (Zc 2 [] [(18,.pt b1 1)] {} (Yp 1 (Bk b1 (Za.c (⟨⟨f.Track.ID,1,f.Track.Time,f.Track.At,f.Track.Speed,f.Track.Height,f.Track.Rate,f.Track.Radius,f.Track.Code,f.Track.Hits,0⟩,f.Slack,f.Last⟩:Za)) 44) (fun _=>{}) (Zz (Zc 1 [1] [(19,Za.v (⟨⟨f.Track.ID,1,f.Track.Time,f.Track.At,f.Track.Speed,f.Track.Height,f.Track.Rate,f.Track.Radius,f.Track.Code,f.Track.Hits,0⟩,f.Slack,f.Last⟩:Za))] {} (Yp 0 (Bk b2 (Za.c (⟨⟨f.Track.ID,1,f.Track.Time,f.Track.At,f.Track.Speed,f.Track.Height,f.Track.Rate,f.Track.Radius,f.Track.Code,f.Track.Hits,0⟩,f.Slack,f.Last⟩:Za)) 44) (fun _=>{}) (Zc 3 [] [(3,.i 0)] {} (Zb rfl (TC.ret (TE.ret [0] (.tuple #[Za.v (⟨⟨f.Track.ID,1,f.Track.Time,f.Track.At,f.Track.Speed,f.Track.Height,f.Track.Rate,f.Track.Radius,f.Track.Code,f.Track.Hits,0⟩,f.Slack,f.Last⟩:Za),.i 0]) {} (by unfold QH;refine eS (a:=((⟨⟨f.Track.ID,1,f.Track.Time,f.Track.At,f.Track.Speed,f.Track.Height,f.Track.Rate,f.Track.Radius,f.Track.Code,f.Track.Hits,0⟩,f.Slack,f.Last⟩:Za),0)) (fun (z:Za×Int)=>(.tuple #[Za.v z.1,.i z.2]:Value)) ?_;subst hr1;exact Ze h1 (Zm h2 (rfl))))))))))))
  ·exact Yc (Zc 1 [1] [(19,Za.v (⟨⟨f.Track.ID,f.Track.State,f.Track.Time,f.Track.At,f.Track.Speed,f.Track.Height,f.Track.Rate,f.Track.Radius,f.Track.Code,f.Track.Hits,0⟩,f.Slack,f.Last⟩:Za))] {} (Yp 0 (Bk b2 (Za.c (⟨⟨f.Track.ID,f.Track.State,f.Track.Time,f.Track.At,f.Track.Speed,f.Track.Height,f.Track.Rate,f.Track.Radius,f.Track.Code,f.Track.Hits,0⟩,f.Slack,f.Last⟩:Za)) 44) (fun _=>{}) (Zc 3 [] [(3,.i 0)] {} (Zb rfl (TC.ret (TE.ret [0] (.tuple #[Za.v (⟨⟨f.Track.ID,f.Track.State,f.Track.Time,f.Track.At,f.Track.Speed,f.Track.Height,f.Track.Rate,f.Track.Radius,f.Track.Code,f.Track.Hits,0⟩,f.Slack,f.Last⟩:Za),.i 0]) {} (by unfold QH;refine eS (a:=((⟨⟨f.Track.ID,f.Track.State,f.Track.Time,f.Track.At,f.Track.Speed,f.Track.Height,f.Track.Rate,f.Track.Radius,f.Track.Code,f.Track.Hits,0⟩,f.Slack,f.Last⟩:Za),0)) (fun (z:Za×Int)=>(.tuple #[Za.v z.1,.i z.2]:Value)) ?_;subst hr1;exact Ze h1 (Ze h2 (rfl)))))))))
def J2 (x:Int):Int :=
 let r1:=YI ((ZZ .u64 ((YI ((ZZ .u64 (x.fdiv (2 ^ 1)) 6148914691236517205)+(ZZ .u64 x 6148914691236517205))).fdiv (2 ^ 2)) 3689348814741910323)+(ZZ .u64 (YI ((ZZ .u64 (x.fdiv (2 ^ 1)) 6148914691236517205)+(ZZ .u64 x 6148914691236517205))) 3689348814741910323))
 let r2:=YI ((YI ((ZZ .u64 (YI ((r1.fdiv (2 ^ 4))+r1)) 1085102592571150095)+((ZZ .u64 (YI ((r1.fdiv (2 ^ 4))+r1)) 1085102592571150095).fdiv (2 ^ 8))))+((YI ((ZZ .u64 (YI ((r1.fdiv (2 ^ 4))+r1)) 1085102592571150095)+((ZZ .u64 (YI ((r1.fdiv (2 ^ 4))+r1)) 1085102592571150095).fdiv (2 ^ 8)))).fdiv (2 ^ 16)))
 ZZ .i64 (w64 (YI (r2+(r2.fdiv (2 ^ 32))))) 127
theorem UD (x:Int) (w:World):Calls Tryz.prog 234 #[.int .u64 x] w (Ret w (.int .i64 (J2 x))):=by
 refine Zp (vs:=[.int .u64 x]) (w:=w) Tryz.func234 rfl Tryz.ntmps234 rfl (Zf (Zc 1 [] [(2,.i 0)] {} (Zz (Zc 7 [] [(0,.int .u64 (YI ((ZZ .u64 (x.fdiv (2 ^ 1)) 6148914691236517205)+(ZZ .u64 x 6148914691236517205))))] {} (Zz (Zc 7 [] [(0,.int .u64 (YI ((ZZ .u64 ((YI ((ZZ .u64 (x.fdiv (2 ^ 1)) 6148914691236517205)+(ZZ .u64 x 6148914691236517205))).fdiv (2 ^ 2)) 3689348814741910323)+(ZZ .u64 (YI ((ZZ .u64 (x.fdiv (2 ^ 1)) 6148914691236517205)+(ZZ .u64 x 6148914691236517205))) 3689348814741910323))))] {} ?_))))))
 generalize hr1:YI ((ZZ .u64 ((YI ((ZZ .u64 (x.fdiv (2 ^ 1)) 6148914691236517205)+(ZZ .u64 x 6148914691236517205))).fdiv (2 ^ 2)) 3689348814741910323)+(ZZ .u64 (YI ((ZZ .u64 (x.fdiv (2 ^ 1)) 6148914691236517205)+(ZZ .u64 x 6148914691236517205))) 3689348814741910323))=r1
 refine Zz (Zc 6 [] [(0,.int .u64 (ZZ .u64 (YI ((r1.fdiv (2 ^ 4))+r1)) 1085102592571150095))] {} (Zz (Zc 5 [] [(0,.int .u64 (YI ((ZZ .u64 (YI ((r1.fdiv (2 ^ 4))+r1)) 1085102592571150095)+((ZZ .u64 (YI ((r1.fdiv (2 ^ 4))+r1)) 1085102592571150095).fdiv (2 ^ 8)))))] {} (Zz (Zc 5 [] [(0,.int .u64 (YI ((YI ((ZZ .u64 (YI ((r1.fdiv (2 ^ 4))+r1)) 1085102592571150095)+((ZZ .u64 (YI ((r1.fdiv (2 ^ 4))+r1)) 1085102592571150095).fdiv (2 ^ 8))))+((YI ((ZZ .u64 (YI ((r1.fdiv (2 ^ 4))+r1)) 1085102592571150095)+((ZZ .u64 (YI ((r1.fdiv (2 ^ 4))+r1)) 1085102592571150095).fdiv (2 ^ 8)))).fdiv (2 ^ 16)))))] {} ?_)))))
 generalize hr2:YI ((YI ((ZZ .u64 (YI ((r1.fdiv (2 ^ 4))+r1)) 1085102592571150095)+((ZZ .u64 (YI ((r1.fdiv (2 ^ 4))+r1)) 1085102592571150095).fdiv (2 ^ 8))))+((YI ((ZZ .u64 (YI ((r1.fdiv (2 ^ 4))+r1)) 1085102592571150095)+((ZZ .u64 (YI ((r1.fdiv (2 ^ 4))+r1)) 1085102592571150095).fdiv (2 ^ 8)))).fdiv (2 ^ 16)))=r2
 exact Zz (Zc 5 [] [(0,.int .u64 (YI (r2+(r2.fdiv (2 ^ 32)))))] {} (Zz (Zc 4 [] [(2,.i (ZZ .i64 (w64 (YI (r2+(r2.fdiv (2 ^ 32))))) 127))] {} (Zb rfl (TC.ret (TE.ret [] (.i (ZZ .i64 (w64 (YI (r2+(r2.fdiv (2 ^ 32))))) 127)) {} (by unfold J2;refine eS (fun z=>(.i z:Value)) ?_;subst hr1 hr2;exact rfl)))))))
def JU (x:Int):Int :=
 let r1:=J2 x
 r1
theorem Gt (x:Int) (w:World):Calls Tryz.prog 222 #[.int .u64 x] w (Ret w (.int .i64 (JU x))):=by
 exact Zp (vs:=[.int .u64 x]) (w:=w) Tryz.func222 rfl Tryz.ntmps222 rfl (Zf (Zc 1 [] [(2,.i 0)] {} (Z1 (J1 rfl Kr (Yc (Zc 1 [] [(6,.int .u64 x)] {} (TL.c 7 (J2 x) (fun r1=>.i r1) (fun w _=>UD x w) {} (fun r1 hr1=>Zc 3 [] [(2,.i r1)] {} (Zb rfl (TC.ret (TE.ret [] (.i r1) {} (by unfold JU;refine eS (fun z=>(.i z:Value)) ?_;subst hr1;exact rfl))))))))))))
def Qf (need:Int) (of_:Int):Int :=
 cond ((((decide (of_<1))||(decide (of_>16)))||(decide (need<1)))||(decide (need>of_))) (
  4) (
  0)
theorem Ur (need:Int) (of_:Int) (w:World):Calls Tryz.prog 150 #[.int .i64 need,.int .i64 of_] w (Ret w (.int .i64 (Qf need of_))):=by
 refine Zp (vs:=[.i need,.i of_]) (w:=w) Tryz.func150 rfl Tryz.ntmps150 rfl (Zf (Zc 1 [] [(4,.i 0)] {} (Z1 (Zf (Zc 3 [] [(7,.b (decide (of_<1)))] {} (XM 7 (decide (of_<1)) 6 [] [] (fun β=>[(10,.b (β||(decide (of_>16))))]) Kr {} {} (Zc 7 [] [(11,.b ((decide (of_<1))||(decide (of_>16))))] {} (XM 11 ((decide (of_<1))||(decide (of_>16))) 10 [] [] (fun β=>[(14,.b (β||(decide (need<1))))]) Kr {} {} (Zc 11 [] [(15,.b (((decide (of_<1))||(decide (of_>16)))||(decide (need<1))))] {} (XM 15 (((decide (of_<1))||(decide (of_>16)))||(decide (need<1))) 15 [] [] (fun β=>[(19,.b (β||(decide (need>of_))))]) Kr {} {} (Zb rfl (TC.cond ((((decide (of_<1))||(decide (of_>16)))||(decide (need<1)))||(decide (need>of_))) rfl Kr (fun h1=>?_) (fun h1=>?_)))))))))))))
 ·exact Zf (Zc 1 [] [(4,.i 4)] {} (Zb rfl (TC.ret (Zo (TE.ret [] (.i 4) {} (by unfold Qf;refine eS (fun z=>(.i z:Value)) ?_;exact Zm h1 (rfl)))))))
 ·exact Yc (Zc 1 [] [(4,.i 0)] {} (Zb rfl (TC.ret (TE.ret [] (.i 0) {} (by unfold Qf;refine eS (fun z=>(.i z:Value)) ?_;exact Ze h1 (rfl))))))
def KC (b_:Zg):Int :=
 cond ((decide (b_.Scans<0))||(decide (b_.Scans>16))) (
  4) (
  cond (decide (b_.Hits<0)) (
   3) (
   cond (decide (b_.Hits≥(w64 (1*2 ^ (min b_.Scans.toNat 64))))) (
    3) (
    0)))
theorem Fh (b_:Zg) (w:World):Calls Tryz.prog 155 #[Zg.v b_] w (Ret w (.int .i64 (KC b_))):=by
 refine Zp (vs:=[Zg.v b_]) (w:=w) Tryz.func155 rfl Tryz.ntmps155 rfl (Zf (ZA 1 (fun b1=>.p0 b1) (fun b1=>Bk b1 (Zg.c b_) 120) (fun b1=>{}) (fun b1=>Zc 2 [] [(2,.i 0)] {} (Z1 (TC.block (Zf (Zc 4 [0] [(7,.b (decide (b_.Scans<0)))] {} (XM 7 (decide (b_.Scans<0)) 8 [] [0] (fun β=>[(11,.b (β||(decide (b_.Scans>16))))]) Kr {} {} (Zc 9 [] [(3,.b ((decide (b_.Scans<0))||(decide (b_.Scans>16))))] {} (Zb rfl (TC.cond ((decide (b_.Scans<0))||(decide (b_.Scans>16))) rfl Kr (fun h1=>?_) (fun h1=>?_))))))))))))
 ·refine Zf (Zc 1 [] [(2,.i 4)] {} (Zb rfl (TC.ret (ZL (Zo ?_)))))
  exact TE.ret [] (.i 4) {} (by unfold KC;refine eS (fun z=>(.i z:Value)) ?_;exact Zm h1 (rfl))
 ·have vm:=(Zv (Z2 h1))
  have rq:=(Zv (Ye h1))
  refine TC.seq (Kx 12 Kr Kr Kr (YY 4 [0] [(16,.b (decide (b_.Hits<0)))] {} (KE 16 (decide (b_.Hits<0)) Kr (fun h2=>?_) (fun h2=>?_))))
  ·refine YY 12 [] [(12,.b true)] {} (Q1 rfl (Xg rfl Kr (Zf (Zc 1 [] [(2,.i 3)] {} (Zb rfl (TC.ret (ZL (Zo ?_))))))))
   exact TE.ret [] (.i 3) {} (by unfold KC;refine eS (fun z=>(.i z:Value)) ?_;exact Ze h1 (Zm h2 (rfl)))
  ·have k9:=(Zv h2)
   refine YY 8 [0,0] [(18,.i b_.Hits),(20,.i b_.Scans)] {} (TQ.v (sV (binOp .shl 3 (.i 1) (.i b_.Scans))) 21 (.i (w64 (1*2 ^ (min b_.Scans.toNat 64)))) (fun w hM=>Tc sd) rfl {} (YY 12 [] [(12,.b (decide (b_.Hits≥(w64 (1*2 ^ (min b_.Scans.toNat 64))))))] {} (Q1 rfl (TC.cond (decide (b_.Hits≥(w64 (1*2 ^ (min b_.Scans.toNat 64))))) rfl Kr (fun h3=>?_) (fun h3=>?_)))))
   ·refine Zf (Zc 1 [] [(2,.i 3)] {} (Zb rfl (TC.ret (ZL (Zo ?_)))))
    exact TE.ret [] (.i 3) {} (by unfold KC;refine eS (fun z=>(.i z:Value)) ?_;exact Ze h1 (Ze h2 (Zm h3 (rfl))))
   ·exact TC.skip (ZY (YC (Zc 1 [] [(2,.i 0)] {} (Zb rfl (TC.ret (TE.ret [] (.i 0) {} (by unfold KC;refine eS (fun z=>(.i z:Value)) ?_;exact Ze h1 (Ze h2 (Ze h3 (rfl))))))))))
def JL (b_:Zg) (last:Int):Int :=
 let r1:=JU (YI (ZZ .i64 b_.Hits (w64 ((w64 (1*2 ^ (min last.toNat 64)))-1))))
 r1
theorem VN (b_:Zg) (last:Int) (w:World) (h0:0≤last):Calls Tryz.prog 192 #[Zg.v b_,.int .i64 last] w (Ret w (.int .i64 (JL b_ last))):=by
 exact Zp (vs:=[Zg.v b_,.i last]) (w:=w) Tryz.func192 rfl Tryz.ntmps192 rfl (Zf (ZA 2 (fun b1=>.p0 b1) (fun b1=>Bk b1 (Zg.c b_) 120) (fun b1=>{}) (fun b1=>Zc 2 [] [(4,.i 0)] {} (Z1 (Kx 9 Kr Kr Kr (YY 3 [0] [(6,.i b_.Hits),(7,.i last)] {} (TQ.v (sV (binOp .shl 3 (.i 1) (.i last))) 8 (.i (w64 (1*2 ^ (min last.toNat 64)))) (fun w hM=>Tc h0) rfl {} (YY 7 [] [(11,.int .u64 (YI (ZZ .i64 b_.Hits (w64 ((w64 (1*2 ^ (min last.toNat 64)))-1)))))] {} (TQ.c 12 (JU (YI (ZZ .i64 b_.Hits (w64 ((w64 (1*2 ^ (min last.toNat 64)))-1))))) (fun r1=>.i r1) (fun w _=>Gt (YI (ZZ .i64 b_.Hits (w64 ((w64 (1*2 ^ (min last.toNat 64)))-1)))) w) rfl {} (fun r1 hr1=>YY 9 [] [(4,.i r1)] {} (Q1 rfl (TC.ret (TE.ret [] (.i r1) {} (by unfold JL;refine eS (fun z=>(.i z:Value)) ?_;subst hr1;exact rfl))))))))))))))
def V4 (b_:Zg) (need:Int) (of_:Int):Nat→Nat→((Unit) ⊕ (Zg×Int))
 | 0,_=>.inl ()
 | m+1,k=>let r2:=JL (⟨kor .i64 (ZZ .i64 (w64 (b_.Hits*2 ^ 1)) 65535) 1,YF 16 (w64 (b_.Scans+1))⟩:Zg) (w64 (of_-(1+(k:Int))))
  cond ((decide (r2>0))&&(decide ((w64 (r2+(1+(k:Int))))≥need))) (
   .inr ((⟨kor .i64 (ZZ .i64 (w64 (b_.Hits*2 ^ 1)) 65535) 1,YF 16 (w64 (b_.Scans+1))⟩:Zg),0)) (
   V4 b_ need of_ m (k+1))
def V5 (b_:Zg) (need:Int) (of_:Int):Nat→Nat→((Unit) ⊕ (Zg×Int))
 | 0,_=>.inl ()
 | m+1,k_2=>let r4:=JL (⟨ZZ .i64 (w64 (b_.Hits*2 ^ 1)) 65535,YF 16 (w64 (b_.Scans+1))⟩:Zg) (w64 (of_-(1+(k_2:Int))))
  cond ((decide (r4>0))&&(decide ((w64 (r4+(1+(k_2:Int))))≥need))) (
   .inr ((⟨ZZ .i64 (w64 (b_.Hits*2 ^ 1)) 65535,YF 16 (w64 (b_.Scans+1))⟩:Zg),0)) (
   V5 b_ need of_ m (k_2+1))
def Jc (b_:Zg) (hit:Bool) (need:Int) (of_:Int):Zg×Int :=
 cond hit (
  let r1:=JL (⟨kor .i64 (ZZ .i64 (w64 (b_.Hits*2 ^ 1)) 65535) 1,YF 16 (w64 (b_.Scans+1))⟩:Zg) of_
  cond (decide (r1≥need)) (
   ((⟨kor .i64 (ZZ .i64 (w64 (b_.Hits*2 ^ 1)) 65535) 1,YF 16 (w64 (b_.Scans+1))⟩:Zg),1)) (
   cond (decide ((YF 16 (w64 (b_.Scans+1)))<of_)) (
    ((⟨kor .i64 (ZZ .i64 (w64 (b_.Hits*2 ^ 1)) 65535) 1,YF 16 (w64 (b_.Scans+1))⟩:Zg),0)) (
    Sum.elim (fun _ =>
     ((⟨kor .i64 (ZZ .i64 (w64 (b_.Hits*2 ^ 1)) 65535) 1,YF 16 (w64 (b_.Scans+1))⟩:Zg),2)) (fun r=>r) (V4 b_ need of_ ((of_-1).toNat) 0)))) (
  let r3:=JL (⟨ZZ .i64 (w64 (b_.Hits*2 ^ 1)) 65535,YF 16 (w64 (b_.Scans+1))⟩:Zg) of_
  cond (decide (r3≥need)) (
   ((⟨ZZ .i64 (w64 (b_.Hits*2 ^ 1)) 65535,YF 16 (w64 (b_.Scans+1))⟩:Zg),1)) (
   cond (decide ((YF 16 (w64 (b_.Scans+1)))<of_)) (
    ((⟨ZZ .i64 (w64 (b_.Hits*2 ^ 1)) 65535,YF 16 (w64 (b_.Scans+1))⟩:Zg),0)) (
    Sum.elim (fun _ =>
     ((⟨ZZ .i64 (w64 (b_.Hits*2 ^ 1)) 65535,YF 16 (w64 (b_.Scans+1))⟩:Zg),2)) (fun r=>r) (V5 b_ need of_ ((of_-1).toNat) 0))))
set_option maxHeartbeats 4000000 in
theorem N3 (b_:Zg) (hit:Bool) (need:Int) (of_:Int) (w:World) (hof:1≤of_∧of_≤16):Calls Tryz.prog 156 #[Zg.v b_,.bool hit,.int .i64 need,.int .i64 of_] w (Ret w (.tuple #[Zg.v ((Jc b_ hit need of_).1),.int .i64 ((Jc b_ hit need of_).2)])):=by
 refine Zp (vs:=[Zg.v b_,.b hit,.i need,.i of_]) (w:=w) Tryz.func156 rfl Tryz.ntmps156 rfl (Zf (ZA 4 (fun b1=>.p0 b1) (fun b1=>Bk b1 (Zg.c b_) 120) (fun b1=>{}) (fun b1=>ZA 8 (fun b2=>.p0 b2) (fun b2=>Bk b2 (Zg.c Zg.zero) 120) (fun b2=>{}) (fun b2=>Zc 3 [] [(9,.i 0)] {} (Zz (Zc 5 [1] [(15,.i (ZZ .i64 (w64 (b_.Hits*2 ^ 1)) 65535)),(16,.p0 b1)] {} (Yp 1 (Bk b1 (Zg.c (⟨ZZ .i64 (w64 (b_.Hits*2 ^ 1)) 65535,b_.Scans⟩:Zg)) 120) (fun _=>{}) (Z1 (Zf (Zc 1 [] [(17,.b hit)] {} (Zb rfl (TC.cond hit rfl Kr (fun h1=>?_) (fun h1=>?_)))))))))))))
 ·refine TC.region (Zc 4 [1] [(20,.i (kor .i64 (ZZ .i64 (w64 (b_.Hits*2 ^ 1)) 65535) 1)),(21,.p0 b1)] {} (Yp 1 (Bk b1 (Zg.c (⟨kor .i64 (ZZ .i64 (w64 (b_.Hits*2 ^ 1)) 65535) 1,b_.Scans⟩:Zg)) 120) (fun _=>{}) (Zz (Zc 5 [1] [(25,.i (YF 16 (w64 (b_.Scans+1)))),(26,.pt b1 1)] {} (Yp 1 (Bk b1 (Zg.c (⟨kor .i64 (ZZ .i64 (w64 (b_.Hits*2 ^ 1)) 65535) 1,YF 16 (w64 (b_.Scans+1))⟩:Zg)) 120) (fun _=>{}) (Z1 (Zf (Zc 2 [1] [(27,Zg.v (⟨kor .i64 (ZZ .i64 (w64 (b_.Hits*2 ^ 1)) 65535) 1,YF 16 (w64 (b_.Scans+1))⟩:Zg)),(28,.i of_)] {} (TL.c 29 (JL (⟨kor .i64 (ZZ .i64 (w64 (b_.Hits*2 ^ 1)) 65535) 1,YF 16 (w64 (b_.Scans+1))⟩:Zg) of_) (fun r1=>.i r1) (fun w _=>VN (⟨kor .i64 (ZZ .i64 (w64 (b_.Hits*2 ^ 1)) 65535) 1,YF 16 (w64 (b_.Scans+1))⟩:Zg) of_ w (by have m0_:=Nn 16 (w64 (b_.Scans+1));have m1_:=Np 16 (w64 (b_.Scans+1));have m2_:=Br 16 (w64 (b_.Scans+1));exact sg)) {} (fun r1 hr1=>Zc 5 [] [(31,.b (decide (r1≥need)))] {} (Zb rfl (TC.cond (decide (r1≥need)) rfl Kr (fun h2=>?_) (fun h2=>?_)))))))))))))
  ·exact Zf (Zc 1 [1] [(32,Zg.v (⟨kor .i64 (ZZ .i64 (w64 (b_.Hits*2 ^ 1)) 65535) 1,YF 16 (w64 (b_.Scans+1))⟩:Zg))] {} (Yp 0 (Bk b2 (Zg.c (⟨kor .i64 (ZZ .i64 (w64 (b_.Hits*2 ^ 1)) 65535) 1,YF 16 (w64 (b_.Scans+1))⟩:Zg)) 120) (fun _=>{}) (Zc 3 [] [(9,.i 1)] {} (Zb rfl (TC.ret (Zo (TE.ret [0] (.tuple #[Zg.v (⟨kor .i64 (ZZ .i64 (w64 (b_.Hits*2 ^ 1)) 65535) 1,YF 16 (w64 (b_.Scans+1))⟩:Zg),.i 1]) {} (by unfold Jc;refine eS (a:=((⟨kor .i64 (ZZ .i64 (w64 (b_.Hits*2 ^ 1)) 65535) 1,YF 16 (w64 (b_.Scans+1))⟩:Zg),1)) (fun (z:Zg×Int)=>(.tuple #[Zg.v z.1,.i z.2]:Value)) ?_;subst hr1;exact Zm h1 (Zm h2 (rfl))))))))))
  ·have k9:=(Zv h2)
   refine Yg (TC.seq (Zf (Zc 4 [1] [(36,.b (decide ((YF 16 (w64 (b_.Scans+1)))<of_)))] {} (Zb rfl (TC.cond (decide ((YF 16 (w64 (b_.Scans+1)))<of_)) rfl Kr (fun h3=>?_) (fun h3=>?_))))))
   ·exact Zf (Zc 1 [1] [(37,Zg.v (⟨kor .i64 (ZZ .i64 (w64 (b_.Hits*2 ^ 1)) 65535) 1,YF 16 (w64 (b_.Scans+1))⟩:Zg))] {} (Yp 0 (Bk b2 (Zg.c (⟨kor .i64 (ZZ .i64 (w64 (b_.Hits*2 ^ 1)) 65535) 1,YF 16 (w64 (b_.Scans+1))⟩:Zg)) 120) (fun _=>{}) (Zc 3 [] [(9,.i 0)] {} (Zb rfl (TC.ret (Zo (TE.ret [0] (.tuple #[Zg.v (⟨kor .i64 (ZZ .i64 (w64 (b_.Hits*2 ^ 1)) 65535) 1,YF 16 (w64 (b_.Scans+1))⟩:Zg),.i 0]) {} (by unfold Jc;refine eS (a:=((⟨kor .i64 (ZZ .i64 (w64 (b_.Hits*2 ^ 1)) 65535) 1,YF 16 (w64 (b_.Scans+1))⟩:Zg),0)) (fun (z:Zg×Int)=>(.tuple #[Zg.v z.1,.i z.2]:Value)) ?_;subst hr1;exact Zm h1 (Ze h2 (Zm h3 (rfl)))))))))))
   ·have y2:=(Zv h3)
    refine Yg (TC.seq (Zf (Zc 1 [] [(10,.i 1)] {} (Zb rfl ?_))))
    obtain⟨R1,hR⟩:∃ R,R=V4 b_ need of_ ((of_-1).toNat) 0:=⟨_,rfl⟩
    refine TC.cut (S:=Unit) (fun (_:Unit)=>[(4,.p0 b1),(8,.p0 b2)]) (fun (_:Unit)=>[Bk b2 (Zg.c Zg.zero) 120,Bk b1 (Zg.c (⟨kor .i64 (ZZ .i64 (w64 (b_.Hits*2 ^ 1)) 65535) 1,YF 16 (w64 (b_.Scans+1))⟩:Zg)) 120]) (fun (_:Unit)=>R1=.inl ()) ?_ ?_
    ·refine TC.block (TC.rw 10 (.i 1) (.i (1+((0:Nat):Int))) Kr (int_eq (by first|omega|(rw[Zt (by omega)];omega)|(simp only[Xi];omega))) (Xp (X:=Nat) (fun k=>[(2,.i need),(3,.i of_),(4,.p0 b1),(8,.p0 b2),(10,.i (1+(k:Int)))]) (fun k=>[Bk b2 (Zg.c Zg.zero) 120,Bk b1 (Zg.c (⟨kor .i64 (ZZ .i64 (w64 (b_.Hits*2 ^ 1)) 65535) 1,YF 16 (w64 (b_.Scans+1))⟩:Zg)) 120]) (fun k=>((of_-1).toNat)-k) (fun k=>k≤((of_-1).toNat)∧R1=V4 b_ need of_ (((of_-1).toNat)-k) k) ?_ 0 ⟨aP _,hR⟩ Kr (sb 3)))
     rintro k ⟨hk,hI⟩
     refine TC.seq (Zf (Zc 3 [] [(40,.b (decide ((1+(k:Int))<of_)))] {} (Zb rfl (TC.cond (decide ((1+(k:Int))<of_)) rfl Kr (fun h4=>?_) (fun h4=>?_)))))
     ·have hlt:k<((of_-1).toNat):=by have p0_:=(ZF h4);first|omega|(simp only[Xi] at *;omega)
      have hd:((of_-1).toNat)-k=(((of_-1).toNat)-(k+1))+1:=by omega
      have yq:=(ZF h4)
      refine Yg (TC.seq (TC.block (Zf (Zc 4 [1] [(43,Zg.v (⟨kor .i64 (ZZ .i64 (w64 (b_.Hits*2 ^ 1)) 65535) 1,YF 16 (w64 (b_.Scans+1))⟩:Zg)),(46,.i (w64 (of_-(1+(k:Int)))))] {} (TL.c 47 (JL (⟨kor .i64 (ZZ .i64 (w64 (b_.Hits*2 ^ 1)) 65535) 1,YF 16 (w64 (b_.Scans+1))⟩:Zg) (w64 (of_-(1+(k:Int))))) (fun r2=>.i r2) (fun w _=>VN (⟨kor .i64 (ZZ .i64 (w64 (b_.Hits*2 ^ 1)) 65535) 1,YF 16 (w64 (b_.Scans+1))⟩:Zg) (w64 (of_-(1+(k:Int)))) w (by have m0_:=Nn 16 (w64 (b_.Scans+1));have m1_:=Np 16 (w64 (b_.Scans+1));have m2_:=Br 16 (w64 (b_.Scans+1));exact sg)) {} (fun r2 hr2=>Zc 6 [] [(11,.i r2)] {} (Zz (Zc 3 [] [(50,.b (decide (r2>0)))] {} (XM 50 (decide (r2>0)) 9 [] [] (fun β=>[(56,.b (β&&(decide ((w64 (r2+(1+(k:Int))))≥need))))]) Kr {} {} (Zb rfl (TC.cond ((decide (r2>0))&&(decide ((w64 (r2+(1+(k:Int))))≥need))) rfl Kr (fun h5=>?_) (fun h5=>?_))))))))))))
      ·refine Zf (Zc 1 [1] [(57,Zg.v (⟨kor .i64 (ZZ .i64 (w64 (b_.Hits*2 ^ 1)) 65535) 1,YF 16 (w64 (b_.Scans+1))⟩:Zg))] {} (Yp 0 (Bk b2 (Zg.c (⟨kor .i64 (ZZ .i64 (w64 (b_.Hits*2 ^ 1)) 65535) 1,YF 16 (w64 (b_.Scans+1))⟩:Zg)) 120) (fun _=>{}) (Zc 3 [] [(9,.i 0)] {} (Zb rfl (TC.ret (ZL (Zo (Zo (ZL (Zo (Zo ?_)))))))))))
       exact TE.ret [0] (.tuple #[Zg.v (⟨kor .i64 (ZZ .i64 (w64 (b_.Hits*2 ^ 1)) 65535) 1,YF 16 (w64 (b_.Scans+1))⟩:Zg),.i 0]) {} (by unfold Jc;refine eS (a:=((⟨kor .i64 (ZZ .i64 (w64 (b_.Hits*2 ^ 1)) 65535) 1,YF 16 (w64 (b_.Scans+1))⟩:Zg),0)) (fun (z:Zg×Int)=>(.tuple #[Zg.v z.1,.i z.2]:Value)) ?_;subst hr1 hr2;exact Zm h1 (Ze h2 (Ze h3 (Xh (hR.symm.trans (hI.trans (by rw[hd];exact Zm h5 (rfl)))) rfl))))
      ·have uf:=((Qr h5).imp (fun h=>(Zv h)) (fun h=>(Zv h)))
       exact TC.skip (ZY (Z3 (TC.region (Zc 3 [] [(10,.i (w64 ((1+(k:Int))+1)))] {} (Zw rfl (TE.rw 10 (.i (w64 ((1+(k:Int))+1))) (.i (1+((k+1:Nat):Int))) Kr (int_eq (by first|omega|(rw[Zt (by omega)];omega)|(simp only[Xi] at *;omega))) (Z4 (x:=k) (k+1) ⟨by omega,hI.trans (by subst hr1 hr2;rw[hd];exact Ze h5 (rfl))⟩ (mN hlt) Kr (sb 3))))))))
     ·have hd:((of_-1).toNat)-k=0:=by have p0_:=(Zv h4);first|omega|(simp only[Xi] at *;omega)
      refine TC.exit (ZT (ZT (Z0 ?_)))
      exact TE.cut () (hI.trans (by subst hr1;rw[hd];exact rfl)) Kr (sb 3)
    ·intro _ hJ
     exact YC (Zc 1 [1] [(58,Zg.v (⟨kor .i64 (ZZ .i64 (w64 (b_.Hits*2 ^ 1)) 65535) 1,YF 16 (w64 (b_.Scans+1))⟩:Zg))] {} (Yp 0 (Bk b2 (Zg.c (⟨kor .i64 (ZZ .i64 (w64 (b_.Hits*2 ^ 1)) 65535) 1,YF 16 (w64 (b_.Scans+1))⟩:Zg)) 120) (fun _=>{}) (Zc 3 [] [(9,.i 2)] {} (Zb rfl (TC.ret (TE.ret [0] (.tuple #[Zg.v (⟨kor .i64 (ZZ .i64 (w64 (b_.Hits*2 ^ 1)) 65535) 1,YF 16 (w64 (b_.Scans+1))⟩:Zg),.i 2]) {} (by unfold Jc;refine eS (a:=((⟨kor .i64 (ZZ .i64 (w64 (b_.Hits*2 ^ 1)) 65535) 1,YF 16 (w64 (b_.Scans+1))⟩:Zg),2)) (fun (z:Zg×Int)=>(.tuple #[Zg.v z.1,.i z.2]:Value)) ?_;subst hr1;exact Zm h1 (Ze h2 (Ze h3 (Q3 (hR.symm.trans hJ) (rfl)))))))))))
 ·refine Yc (Zc 5 [1] [(25,.i (YF 16 (w64 (b_.Scans+1)))),(26,.pt b1 1)] {} (Yp 1 (Bk b1 (Zg.c (⟨ZZ .i64 (w64 (b_.Hits*2 ^ 1)) 65535,YF 16 (w64 (b_.Scans+1))⟩:Zg)) 120) (fun _=>{}) (Z1 (Zf (Zc 2 [1] [(27,Zg.v (⟨ZZ .i64 (w64 (b_.Hits*2 ^ 1)) 65535,YF 16 (w64 (b_.Scans+1))⟩:Zg)),(28,.i of_)] {} (TL.c 29 (JL (⟨ZZ .i64 (w64 (b_.Hits*2 ^ 1)) 65535,YF 16 (w64 (b_.Scans+1))⟩:Zg) of_) (fun r3=>.i r3) (fun w _=>VN (⟨ZZ .i64 (w64 (b_.Hits*2 ^ 1)) 65535,YF 16 (w64 (b_.Scans+1))⟩:Zg) of_ w (by have m0_:=Nn 16 (w64 (b_.Scans+1));have m1_:=Np 16 (w64 (b_.Scans+1));have m2_:=Br 16 (w64 (b_.Scans+1));exact sg)) {} (fun r3 hr3=>Zc 5 [] [(31,.b (decide (r3≥need)))] {} (Zb rfl (TC.cond (decide (r3≥need)) rfl Kr (fun h6=>?_) (fun h6=>?_))))))))))
  ·exact Zf (Zc 1 [1] [(32,Zg.v (⟨ZZ .i64 (w64 (b_.Hits*2 ^ 1)) 65535,YF 16 (w64 (b_.Scans+1))⟩:Zg))] {} (Yp 0 (Bk b2 (Zg.c (⟨ZZ .i64 (w64 (b_.Hits*2 ^ 1)) 65535,YF 16 (w64 (b_.Scans+1))⟩:Zg)) 120) (fun _=>{}) (Zc 3 [] [(9,.i 1)] {} (Zb rfl (TC.ret (Zo (TE.ret [0] (.tuple #[Zg.v (⟨ZZ .i64 (w64 (b_.Hits*2 ^ 1)) 65535,YF 16 (w64 (b_.Scans+1))⟩:Zg),.i 1]) {} (by unfold Jc;refine eS (a:=((⟨ZZ .i64 (w64 (b_.Hits*2 ^ 1)) 65535,YF 16 (w64 (b_.Scans+1))⟩:Zg),1)) (fun (z:Zg×Int)=>(.tuple #[Zg.v z.1,.i z.2]:Value)) ?_;subst hr3;exact Ze h1 (Zm h6 (rfl))))))))))
  ·have y3:=(Zv h6)
   refine Yg (TC.seq (Zf (Zc 4 [1] [(36,.b (decide ((YF 16 (w64 (b_.Scans+1)))<of_)))] {} (Zb rfl (TC.cond (decide ((YF 16 (w64 (b_.Scans+1)))<of_)) rfl Kr (fun h7=>?_) (fun h7=>?_))))))
   ·exact Zf (Zc 1 [1] [(37,Zg.v (⟨ZZ .i64 (w64 (b_.Hits*2 ^ 1)) 65535,YF 16 (w64 (b_.Scans+1))⟩:Zg))] {} (Yp 0 (Bk b2 (Zg.c (⟨ZZ .i64 (w64 (b_.Hits*2 ^ 1)) 65535,YF 16 (w64 (b_.Scans+1))⟩:Zg)) 120) (fun _=>{}) (Zc 3 [] [(9,.i 0)] {} (Zb rfl (TC.ret (Zo (TE.ret [0] (.tuple #[Zg.v (⟨ZZ .i64 (w64 (b_.Hits*2 ^ 1)) 65535,YF 16 (w64 (b_.Scans+1))⟩:Zg),.i 0]) {} (by unfold Jc;refine eS (a:=((⟨ZZ .i64 (w64 (b_.Hits*2 ^ 1)) 65535,YF 16 (w64 (b_.Scans+1))⟩:Zg),0)) (fun (z:Zg×Int)=>(.tuple #[Zg.v z.1,.i z.2]:Value)) ?_;subst hr3;exact Ze h1 (Ze h6 (Zm h7 (rfl)))))))))))
   ·have yr:=(Zv h7)
    refine Yg (TC.seq (Zf (Zc 1 [] [(10,.i 1)] {} (Zb rfl ?_))))
    obtain⟨R2,xo⟩:∃ R,R=V5 b_ need of_ ((of_-1).toNat) 0:=⟨_,rfl⟩
    refine TC.cut (S:=Unit) (fun (_:Unit)=>[(4,.p0 b1),(8,.p0 b2)]) (fun (_:Unit)=>[Bk b2 (Zg.c Zg.zero) 120,Bk b1 (Zg.c (⟨ZZ .i64 (w64 (b_.Hits*2 ^ 1)) 65535,YF 16 (w64 (b_.Scans+1))⟩:Zg)) 120]) (fun (_:Unit)=>R2=.inl ()) ?_ ?_
    ·refine TC.block (TC.rw 10 (.i 1) (.i (1+((0:Nat):Int))) Kr (int_eq (by first|omega|(rw[Zt (by omega)];omega)|(simp only[Xi];omega))) (Xp (X:=Nat) (fun k_2=>[(2,.i need),(3,.i of_),(4,.p0 b1),(8,.p0 b2),(10,.i (1+(k_2:Int)))]) (fun k_2=>[Bk b2 (Zg.c Zg.zero) 120,Bk b1 (Zg.c (⟨ZZ .i64 (w64 (b_.Hits*2 ^ 1)) 65535,YF 16 (w64 (b_.Scans+1))⟩:Zg)) 120]) (fun k_2=>((of_-1).toNat)-k_2) (fun k_2=>k_2≤((of_-1).toNat)∧R2=V5 b_ need of_ (((of_-1).toNat)-k_2) k_2) ?_ 0 ⟨aP _,xo⟩ Kr (sb 3)))
     rintro k_2 ⟨y4,xg⟩
     refine TC.seq (Zf (Zc 3 [] [(40,.b (decide ((1+(k_2:Int))<of_)))] {} (Zb rfl (TC.cond (decide ((1+(k_2:Int))<of_)) rfl Kr (fun h8=>?_) (fun h8=>?_)))))
     ·have zk:k_2<((of_-1).toNat):=by have p0_:=(ZF h8);first|omega|(simp only[Xi] at *;omega)
      have zr:((of_-1).toNat)-k_2=(((of_-1).toNat)-(k_2+1))+1:=by omega
      have fk:=(ZF h8)
      refine Yg (TC.seq (TC.block (Zf (Zc 4 [1] [(43,Zg.v (⟨ZZ .i64 (w64 (b_.Hits*2 ^ 1)) 65535,YF 16 (w64 (b_.Scans+1))⟩:Zg)),(46,.i (w64 (of_-(1+(k_2:Int)))))] {} (TL.c 47 (JL (⟨ZZ .i64 (w64 (b_.Hits*2 ^ 1)) 65535,YF 16 (w64 (b_.Scans+1))⟩:Zg) (w64 (of_-(1+(k_2:Int))))) (fun r4=>.i r4) (fun w _=>VN (⟨ZZ .i64 (w64 (b_.Hits*2 ^ 1)) 65535,YF 16 (w64 (b_.Scans+1))⟩:Zg) (w64 (of_-(1+(k_2:Int)))) w (by have m0_:=Nn 16 (w64 (b_.Scans+1));have m1_:=Np 16 (w64 (b_.Scans+1));have m2_:=Br 16 (w64 (b_.Scans+1));exact sg)) {} (fun r4 hr4=>Zc 6 [] [(11,.i r4)] {} (Zz (Zc 3 [] [(50,.b (decide (r4>0)))] {} (XM 50 (decide (r4>0)) 9 [] [] (fun β=>[(56,.b (β&&(decide ((w64 (r4+(1+(k_2:Int))))≥need))))]) Kr {} {} (Zb rfl (TC.cond ((decide (r4>0))&&(decide ((w64 (r4+(1+(k_2:Int))))≥need))) rfl Kr (fun h9=>?_) (fun h9=>?_))))))))))))
      ·refine Zf (Zc 1 [1] [(57,Zg.v (⟨ZZ .i64 (w64 (b_.Hits*2 ^ 1)) 65535,YF 16 (w64 (b_.Scans+1))⟩:Zg))] {} (Yp 0 (Bk b2 (Zg.c (⟨ZZ .i64 (w64 (b_.Hits*2 ^ 1)) 65535,YF 16 (w64 (b_.Scans+1))⟩:Zg)) 120) (fun _=>{}) (Zc 3 [] [(9,.i 0)] {} (Zb rfl (TC.ret (ZL (Zo (Zo (ZL (Zo (Zo ?_)))))))))))
       exact TE.ret [0] (.tuple #[Zg.v (⟨ZZ .i64 (w64 (b_.Hits*2 ^ 1)) 65535,YF 16 (w64 (b_.Scans+1))⟩:Zg),.i 0]) {} (by unfold Jc;refine eS (a:=((⟨ZZ .i64 (w64 (b_.Hits*2 ^ 1)) 65535,YF 16 (w64 (b_.Scans+1))⟩:Zg),0)) (fun (z:Zg×Int)=>(.tuple #[Zg.v z.1,.i z.2]:Value)) ?_;subst hr3 hr4;exact Ze h1 (Ze h6 (Ze h7 (Xh (xo.symm.trans (xg.trans (by rw[zr];exact Zm h9 (rfl)))) rfl))))
      ·have dc:=((Qr h9).imp (fun h=>(Zv h)) (fun h=>(Zv h)))
       exact TC.skip (ZY (Z3 (TC.region (Zc 3 [] [(10,.i (w64 ((1+(k_2:Int))+1)))] {} (Zw rfl (TE.rw 10 (.i (w64 ((1+(k_2:Int))+1))) (.i (1+((k_2+1:Nat):Int))) Kr (int_eq (by first|omega|(rw[Zt (by omega)];omega)|(simp only[Xi] at *;omega))) (Z4 (x:=k_2) (k_2+1) ⟨by omega,xg.trans (by subst hr3 hr4;rw[zr];exact Ze h9 (rfl))⟩ (mN zk) Kr (sb 3))))))))
     ·have zr:((of_-1).toNat)-k_2=0:=by have p0_:=(Zv h8);first|omega|(simp only[Xi] at *;omega)
      refine TC.exit (ZT (ZT (Z0 ?_)))
      exact TE.cut () (xg.trans (by subst hr3;rw[zr];exact rfl)) Kr (sb 3)
    ·intro _ jv
     exact YC (Zc 1 [1] [(58,Zg.v (⟨ZZ .i64 (w64 (b_.Hits*2 ^ 1)) 65535,YF 16 (w64 (b_.Scans+1))⟩:Zg))] {} (Yp 0 (Bk b2 (Zg.c (⟨ZZ .i64 (w64 (b_.Hits*2 ^ 1)) 65535,YF 16 (w64 (b_.Scans+1))⟩:Zg)) 120) (fun _=>{}) (Zc 3 [] [(9,.i 2)] {} (Zb rfl (TC.ret (TE.ret [0] (.tuple #[Zg.v (⟨ZZ .i64 (w64 (b_.Hits*2 ^ 1)) 65535,YF 16 (w64 (b_.Scans+1))⟩:Zg),.i 2]) {} (by unfold Jc;refine eS (a:=((⟨ZZ .i64 (w64 (b_.Hits*2 ^ 1)) 65535,YF 16 (w64 (b_.Scans+1))⟩:Zg),2)) (fun (z:Zg×Int)=>(.tuple #[Zg.v z.1,.i z.2]:Value)) ?_;subst hr3;exact Ze h1 (Ze h6 (Ze h7 (Q3 (xo.symm.trans jv) (rfl)))))))))))
def JM (b_:Zg) (hit:Bool) (need:Int) (of_:Int):Zg×Int×Int :=
 let r1:=KC b_
 cond (r1 != 0) (
  ((⟨0,0⟩:Zg),0,r1)) (
  let r2:=Qf need of_
  cond (r2 != 0) (
   ((⟨0,0⟩:Zg),0,r2)) (
   let r3:=Jc b_ hit need of_
   (r3.1,r3.2,0)))
theorem Et {need of_ r:Int} (hr:Qf need of_=r) (h:(r != 0)=false):1≤of_∧of_≤16:=by
 subst hr
 unfold Qf at h
 cases hc:((((decide (of_<1))||(decide (of_>16)))||(decide (need<1)))||(decide (need>of_))) with
 | true=>simp only[hc,cond_true] at h;cases h
 | false =>
  have q:=Z2 (Z2 hc)
  have q1:=Zv (Z2 q)
  have q2:=Zv (Ye q)
  omega
theorem N4 (b_:Zg) (hit:Bool) (need:Int) (of_:Int) (w:World):Calls Tryz.prog 113 #[Zg.v b_,.bool hit,.int .i64 need,.int .i64 of_] w (Ret w (.tuple #[Zg.v ((JM b_ hit need of_).1),.int .i64 ((JM b_ hit need of_).2.1),.int .i64 ((JM b_ hit need of_).2.2)])):=by
 refine Zp (vs:=[Zg.v b_,.b hit,.i need,.i of_]) (w:=w) Tryz.func113 rfl Tryz.ntmps113 rfl (Zf (ZA 4 (fun b1=>.p0 b1) (fun b1=>Bk b1 (Zg.c b_) 120) (fun b1=>{}) (fun b1=>ZA 8 (fun b2=>.p0 b2) (fun b2=>Bk b2 (Zg.c Zg.zero) 120) (fun b2=>{}) (fun b2=>Zc 4 [] [(9,.i 0),(10,.i 0)] {} (Z1 (Zf (Zc 1 [1] [(14,Zg.v b_)] {} (TL.c 15 (KC b_) (fun r1=>.i r1) (fun w _=>Fh b_ w) {} (fun r1 hr1=>Zc 3 [] [(11,.i r1)] {} (Zz (Zc 2 [] [(17,.b (r1 != 0))] {} (Zb rfl (TC.cond (r1 != 0) rfl Kr (fun h1=>?_) (fun h1=>?_))))))))))))))
 ·exact Zf (Zc 2 [] [(18,Zg.v Zg.zero),(19,.i r1)] {} (Yp 0 (Bk b2 (Zg.c Zg.zero) 120) (fun _=>{}) (Zc 5 [] [(9,.i 0),(10,.i r1)] {} (Zb rfl (TC.ret (Zo (TE.ret [0] (.tuple #[Zg.v (⟨0,0⟩:Zg),.i 0,.i r1]) {} (by unfold JM;refine eS (a:=((⟨0,0⟩:Zg),0,r1)) (fun (z:Zg×Int×Int)=>(.tuple #[Zg.v z.1,.i z.2.1,.i z.2.2]:Value)) ?_;subst hr1;exact Zm h1 (rfl)))))))))
 ·refine Yg (TC.seq (Zf (Zc 2 [] [(20,.i need),(21,.i of_)] {} (TL.c 22 (Qf need of_) (fun r2=>.i r2) (fun w _=>Ur need of_ w) {} (fun r2 hr2=>Zc 4 [] [(12,.i r2)] {} (Zz (Zc 2 [] [(24,.b (r2 != 0))] {} (Zb rfl (TC.cond (r2 != 0) rfl Kr (fun h2=>?_) (fun h2=>?_))))))))))
  ·exact Zf (Zc 2 [] [(25,Zg.v Zg.zero),(26,.i r2)] {} (Yp 0 (Bk b2 (Zg.c Zg.zero) 120) (fun _=>{}) (Zc 5 [] [(9,.i 0),(10,.i r2)] {} (Zb rfl (TC.ret (Zo (TE.ret [0] (.tuple #[Zg.v (⟨0,0⟩:Zg),.i 0,.i r2]) {} (by unfold JM;refine eS (a:=((⟨0,0⟩:Zg),0,r2)) (fun (z:Zg×Int×Int)=>(.tuple #[Zg.v z.1,.i z.2.1,.i z.2.2]:Value)) ?_;subst hr1 hr2;exact Ze h1 (Zm h2 (rfl))))))))))
  ·exact Yc (Zc 4 [1] [(28,Zg.v b_),(29,.b hit),(30,.i need),(31,.i of_)] {} (TL.c 32 (Jc b_ hit need of_) (fun r3=>.tuple #[Zg.v r3.1,.i r3.2]) (fun w _=>N3 b_ hit need of_ w (Et hr2 h2)) {} (fun r3 hr3=>Zc 8 [] [(33,Zg.v r3.1),(34,.i r3.2)] {} (Yp 1 (Bk b1 (Zg.c r3.1) 120) (fun _=>{}) (Zc 10 [] [(13,.i r3.2)] {} (Zz (Zc 2 [1] [(35,Zg.v r3.1),(36,.i r3.2)] {} (Yp 0 (Bk b2 (Zg.c r3.1) 120) (fun _=>{}) (Zc 5 [] [(9,.i r3.2),(10,.i 0)] {} (Zb rfl (TC.ret (TE.ret [0] (.tuple #[Zg.v r3.1,.i r3.2,.i 0]) {} (by unfold JM;refine eS (a:=(r3.1,r3.2,0)) (fun (z:Zg×Int×Int)=>(.tuple #[Zg.v z.1,.i z.2.1,.i z.2.2]:Value)) ?_;subst hr1 hr2 hr3;exact Ze h1 (Ze h2 (rfl)))))))))))))))
end Go.Sky
end
section
namespace Go.Eng
section
variable {G:Type} {P:Program} {n:Nat} {w0:Ctx} {ops:Array Oper} {base:ZS} {vals:G→List Value} {writes:List Nat} {mem:List Bool→G→Mem}
end
end Go.Eng
namespace Go.Eng
section
variable {G:Type} {P:Program} {n:Nat} {w0:Ctx} {ops:Array Oper} {base:ZS} {vals:G→List Value} {writes:List Nat} {mem:List Bool→G→Mem}
theorem Vi {Γ:Type} (set:Γ→G→G) (E:G→Mem) (E':Γ→G→Mem) (X:(Nat→Bool)→G→Mem) (D:List Nat) (s:G→Sem Next) (d:Option Tmp) (v:Γ→G→Value) {i:Nat}
  (fg:∀ S γ,S i=false→(∀ e:Nat,(Q2 ops.toList i).contains e=true→S e=true)→(∀ k:Nat,(Q2 ops.toList k).contains i=true→S k=false)→(mem (writes.map S) γ).Perm (E γ++X S γ))
  (um:∀ S γ g,S i=false→(∀ e:Nat,(Q2 ops.toList i).contains e=true→S e=true)→(∀ k:Nat,(Q2 ops.toList k).contains i=true→S k=false)→(E' g γ++X S γ).Perm (mem (writes.map (upS S i)) (set g γ)))
  (hv:∀ γ M' w,Sat w0 (E γ++M') w→∃ g w',(s γ).run P w=.ok (.value (v g γ)) w'∧Sat w0 (E' g γ++M') w')
  (hs:∀ γ,semAt ops.toList (US ops.toList base (vals γ)) i=some (s γ,d)) (vi:∀ γ g,(vals (set g γ))[i]?=some (v g γ))
  (hD:PD ops.toList i D=true) (gu:∀ γ g,U7 D 0 (vals (set g γ))=U7 D 0 (vals γ))
  (h:Steps P w0 ops base vals writes mem (ops.toList.drop (i+1)) (i+1)):Steps P w0 ops base vals writes mem (ops.toList.drop i) i:=by
 refine JS (fun o ho S γ w hSi hd hc hMw=>?_) h
 obtain⟨o',h1,h2,h3,h4⟩:=Vw (hs γ)
 rw[ho] at h1
 simp only[aF] at h1
 subst h1
 have hd':∀ e:Nat,(Q2 ops.toList i).contains e=true→S e=true:=fun e he=>hd e (by unfold Q2 at he;rw[ho] at he;simpa using he)
 rw[h2]
 simp only
 unfold U1
 obtain⟨g,w',hr,hM'⟩:=hv γ _ w (hMw.perm (fg S γ hSi hd' (VC hSi hc)))
 rw[h3,hr]
 exact⟨set g γ,agree hD hSi hc (gu γ g),vi γ g,hM'.perm (um S γ g hSi hd' (VC hSi hc))⟩
end
end Go.Eng
namespace Go.Eng
section
variable {P:Program} {ops hd:Array Oper} {Q:Exit→Act→World→Prop} {N:Nat}
end
section
variable {G:Type} {P:Program} {n:Nat} {w0:Ctx} {ops:Array Oper} {base:ZS} {vals:G→List Value} {writes:List Nat} {mem:List Bool→G→Mem}
end
end Go.Eng
end
section
namespace Go.Sky
open Go Go.Eng Go.Proofs
def Vd (qi:Int):Bool :=
 (decide (qi<0))||(decide (qi>60000))
theorem WP (qi:Int) (w:World):Calls Tryz.prog 82 #[.int .i64 qi] w (Ret w (.bool (Vd qi))):=by
 exact Zp (vs:=[.i qi]) (w:=w) Tryz.func82 rfl Tryz.ntmps82 rfl (Zf (Zc 1 [] [(2,.b false)] {} (Zz (Zc 3 [] [(5,.b (decide (qi<0)))] {} (XM 5 (decide (qi<0)) 6 [] [] (fun β=>[(8,.b (β||(decide (qi>60000))))]) Kr {} {} (Zc 7 [] [(2,.b ((decide (qi<0))||(decide (qi>60000))))] {} (Zb rfl (TC.ret (TE.ret [] (.b ((decide (qi<0))||(decide (qi>60000)))) {} (by unfold Vd;refine eS (fun z=>(.b z:Value)) ?_;exact rfl))))))))))
def Vz (a:Int) (b_:Int) (qi:Int):Bool :=
 decide ((Vu (w64 (a-b_)) (w64 (b_-a)))≤qi)
theorem HT (a:Int) (b_:Int) (qi:Int) (w:World):Calls Tryz.prog 145 #[.int .i64 a,.int .i64 b_,.int .i64 qi] w (Ret w (.bool (Vz a b_ qi))):=by
 exact Zp (vs:=[.i a,.i b_,.i qi]) (w:=w) Tryz.func145 rfl Tryz.ntmps145 rfl (Zf (Zc 1 [] [(6,.b false)] {} (Zz (Zc 10 [] [(6,.b (decide ((Vu (w64 (a-b_)) (w64 (b_-a)))≤qi)))] {} (Zb rfl (TC.ret (TE.ret [] (.b (decide ((Vu (w64 (a-b_)) (w64 (b_-a)))≤qi))) {} (by unfold Vz;refine eS (fun z=>(.b z:Value)) ?_;exact rfl))))))))
def KJ (a:Za) (b_:Za) (qi:Int):Bool :=
 cond (a.Track.Time==b_.Track.Time) (
  let r1:=ZX a.Track.At b_.Track.At (w64 (a.Track.Radius+b_.Track.Radius))
  cond r1 (
   let r2:=Vz a.Track.Height b_.Track.Height qi
   cond r2 (
    cond (a.Track.Code==b_.Track.Code) (
     true) (
     cond (a.Track.Code==(-1)) (
      true) (
      b_.Track.Code==(-1)))) (
    false)) (
   false)) (
  false)
theorem Ls (a:Za) (b_:Za) (qi:Int) (w:World):Calls Tryz.prog 158 #[Za.v a,Za.v b_,.int .i64 qi] w (Ret w (.bool (KJ a b_ qi))):=by
 refine Zp (vs:=[Za.v a,Za.v b_,.i qi]) (w:=w) Tryz.func158 rfl Tryz.ntmps158 rfl (Zf (ZA 3 (fun b1=>.p0 b1) (fun b1=>Bk b1 (Za.c a) 44) (fun b1=>{}) (fun b1=>ZA 4 (fun b2=>.p0 b2) (fun b2=>Bk b2 (Za.c b_) 44) (fun b2=>{}) (fun b2=>Zc 3 [] [(6,.b false)] {} (Z1 ?_)))))
 let Mr1_:Mem:=[Bk b2 (Za.c b_) 44,Bk b1 (Za.c a) 44]
 refine Jm (G:=Nat×Nat) (base:=[(2,.i qi),(3,.p0 b1),(4,.p0 b2)]) (vals:=fun γ=>[.p0 b1,Track.v a.Track,.p0 b2,Track.v b_.Track,.p0 γ.1,.p0 γ.2,undef,undef]) (writes:=[4,5,6,7]) (mem:=fun bs γ=>match bs with | [x4_,x5_,x6_,x7_]=>(bif x6_ then [Bk γ.1 (Track.c a.Track) 40] else bif x4_ then [Bk γ.1 (Track.c Track.zero) 40] else [])++((bif x7_ then [Bk γ.2 (Track.c b_.Track) 40] else bif x5_ then [Bk γ.2 (Track.c Track.zero) 40] else [])++(Mr1_))|_=>[]) (0,0) (fun γ=>[(2,.i qi),(7,.p0 γ.1),(8,.p0 γ.2)]) Kr Kr Kr Kr Kr (fun γ=>Kr) (fun _ hM=>hM) (fun γ=>Kr) ?_ ?_
 ·skip
  exact Steps.run (i:=0) 4 [0,1,0,0] Mr1_ Kr Kr (fun S (γ:Nat×Nat) w hM=>by rw[mS4 rfl rfl rfl rfl] at hM;exact hM.sub (Zl (Zl (aB _)))) Kr (fun (γ:Nat×Nat)=>{}) (Steps.op (i:=4) (Γ:=Nat) (fun g (γ:Nat×Nat)=>(g,γ.2)) (fun _=>[]) (fun b (γ:Nat×Nat)=>[Bk b (Track.c Track.zero) 40]) (fun S (γ:Nat×Nat)=>(bif S 7 then [Bk γ.2 (Track.c b_.Track) 40] else bif S 5 then [Bk γ.2 (Track.c Track.zero) 40] else [])++(Mr1_)) [4,6,7] (fun (γ:Nat×Nat)=>sV (Instr.alloc 40 true (.tuple #[]))) (some 7) (fun b (γ:Nat×Nat)=>.p0 b) (fun S (γ:Nat×Nat) hj hd hl=>by rw[mS4 hj rfl (hl 6 Kr) rfl];exact aC _) (fun S (γ:Nat×Nat) g hl=>by rw[mS4 (S:=upS S 4) (a0:=4) (a1:=5) (a2:=6) (a3:=7) rfl rfl (hl 6 Kr) rfl];exact(aC _).symm) (fun (γ:Nat×Nat) M' w hM=>Q4 (v:=fun b=>.p0 b) (fun b M=>Kr) M' w hM) (fun (γ:Nat×Nat)=>Kr) (fun (γ:Nat×Nat) g=>Kr) Kr (fun (γ:Nat×Nat) g=>Kr) (Steps.op (i:=5) (Γ:=Nat) (fun g (γ:Nat×Nat)=>(γ.1,g)) (fun _=>[]) (fun b (γ:Nat×Nat)=>[Bk b (Track.c Track.zero) 40]) (fun S (γ:Nat×Nat)=>(bif S 6 then [Bk γ.1 (Track.c a.Track) 40] else bif S 4 then [Bk γ.1 (Track.c Track.zero) 40] else [])++(Mr1_)) [5,6,7] (fun (γ:Nat×Nat)=>sV (Instr.alloc 40 true (.tuple #[]))) (some 8) (fun b (γ:Nat×Nat)=>.p0 b) (fun S (γ:Nat×Nat) hj hd hl=>by rw[mS4 rfl hj rfl (hl 7 Kr)];exact(aA _ (aC _)).trans (ZC _ _ _)) (fun S (γ:Nat×Nat) g hl=>by rw[mS4 (S:=upS S 5) (a0:=4) (a1:=5) (a2:=6) (a3:=7) rfl rfl rfl (hl 7 Kr)];exact((aA _ (aC _)).trans (ZC _ _ _)).symm) (fun (γ:Nat×Nat) M' w hM=>Q4 (v:=fun b=>.p0 b) (fun b M=>Kr) M' w hM) (fun (γ:Nat×Nat)=>Kr) (fun (γ:Nat×Nat) g=>Kr) Kr (fun (γ:Nat×Nat) g=>Kr) (Steps.put (i:=6) (fun (γ:Nat×Nat)=>[Bk γ.1 (Track.c Track.zero) 40]) (fun (γ:Nat×Nat)=>[Bk γ.1 (Track.c a.Track) 40]) (fun S (γ:Nat×Nat)=>(bif S 7 then [Bk γ.2 (Track.c b_.Track) 40] else bif S 5 then [Bk γ.2 (Track.c Track.zero) 40] else [])++(Mr1_)) (fun (γ:Nat×Nat)=>sU (Instr.storeAt 40 (.p0 γ.1) (Track.v a.Track))) none (fun S (γ:Nat×Nat) hj hd hl=>by rw[mS4 (hd 4 Kr) rfl hj rfl];exact aC _) (fun S (γ:Nat×Nat) _=>(aC _).symm) (fun (γ:Nat×Nat) M' w hM=>JB (fun b M=>Kr) (fun b M=>Kr) M' w hM) (fun (γ:Nat×Nat)=>Kr) (fun (γ:Nat×Nat)=>Kr) (Steps.put (i:=7) (fun (γ:Nat×Nat)=>[Bk γ.2 (Track.c Track.zero) 40]) (fun (γ:Nat×Nat)=>[Bk γ.2 (Track.c b_.Track) 40]) (fun S (γ:Nat×Nat)=>(bif S 6 then [Bk γ.1 (Track.c a.Track) 40] else bif S 4 then [Bk γ.1 (Track.c Track.zero) 40] else [])++(Mr1_)) (fun (γ:Nat×Nat)=>sU (Instr.storeAt 40 (.p0 γ.2) (Track.v b_.Track))) none (fun S (γ:Nat×Nat) hj hd hl=>by rw[mS4 rfl (hd 5 Kr) rfl hj];exact(aA _ (aC _)).trans (ZC _ _ _)) (fun S (γ:Nat×Nat) _=>((aA _ (aC _)).trans (ZC _ _ _)).symm) (fun (γ:Nat×Nat) M' w hM=>JB (fun b M=>Kr) (fun b M=>Kr) M' w hM) (fun (γ:Nat×Nat)=>Kr) (fun (γ:Nat×Nat)=>Kr) (X6 Kr)))))
 ·rintro⟨b3,b4⟩
  refine Yi [Bk b3 (Track.c a.Track) 40,Bk b4 (Track.c b_.Track) 40,Bk b2 (Za.c b_) 44,Bk b1 (Za.c a) 44] (fun _ hM=>hM) (YC (Zc 6 [0,1] [(18,.b (a.Track.Time==b_.Track.Time))] {} (Yy 18 (a.Track.Time==b_.Track.Time) Kr (fun h1=>?_) (fun h1=>?_))))
  ·refine Zc 15 [0,1,0,1] [(20,P.v a.Track.At),(22,P.v b_.Track.At),(27,.i (w64 (a.Track.Radius+b_.Track.Radius)))] {} (TL.c 28 (ZX a.Track.At b_.Track.At (w64 (a.Track.Radius+b_.Track.Radius))) (fun r1=>.b r1) (fun w _=>QR a.Track.At b_.Track.At (w64 (a.Track.Radius+b_.Track.Radius)) w) {} (fun r1 hr1=>Zc 18 [] [(30,.b r1)] {} (Yy 30 r1 Kr (fun h2=>?_) (fun h2=>?_))))
   ·refine Zc 23 [0,1] [(32,.i a.Track.Height),(34,.i b_.Track.Height),(35,.i qi)] {} (TL.c 36 (Vz a.Track.Height b_.Track.Height qi) (fun r2=>.b r2) (fun w _=>HT a.Track.Height b_.Track.Height qi w) {} (fun r2 hr2=>Zc 26 [] [(38,.b r2)] {} (Yy 38 r2 Kr (fun h3=>?_) (fun h3=>?_))))
    ·refine Zc 32 [0,1] [(44,.b (a.Track.Code==b_.Track.Code))] {} (Yy 44 (a.Track.Code==b_.Track.Code) Kr (fun h4=>?_) (fun h4=>?_))
     ·exact Zc 43 [] [(6,.b true)] {} (Zb rfl (TC.ret (TE.ret [] (.b true) {} (by unfold KJ;refine eS (fun z=>(.b z:Value)) ?_;subst hr1 hr2;exact Zm h1 (Zm h2 (Zm h3 (Zm h4 (rfl))))))))
     ·refine Zc 37 [0] [(49,.b (a.Track.Code==(-1)))] {} (Yy 49 (a.Track.Code==(-1)) Kr (fun h5=>?_) (fun h5=>?_))
      ·exact Zc 43 [] [(6,.b true)] {} (Zb rfl (TC.ret (TE.ret [] (.b true) {} (by unfold KJ;refine eS (fun z=>(.b z:Value)) ?_;subst hr1 hr2;exact Zm h1 (Zm h2 (Zm h3 (Ze h4 (Zm h5 (rfl)))))))))
      ·exact Zc 43 [1] [(6,.b (b_.Track.Code==(-1)))] {} (Zb rfl (TC.ret (TE.ret [] (.b (b_.Track.Code==(-1))) {} (by unfold KJ;refine eS (fun z=>(.b z:Value)) ?_;subst hr1 hr2;exact Zm h1 (Zm h2 (Zm h3 (Ze h4 (Ze h5 (rfl)))))))))
    ·exact Zc 43 [] [(6,.b false)] {} (Zb rfl (TC.ret (TE.ret [] (.b false) {} (by unfold KJ;refine eS (fun z=>(.b z:Value)) ?_;subst hr1 hr2;exact Zm h1 (Zm h2 (Ze h3 (rfl)))))))
   ·exact Zc 43 [] [(6,.b false)] {} (Zb rfl (TC.ret (TE.ret [] (.b false) {} (by unfold KJ;refine eS (fun z=>(.b z:Value)) ?_;subst hr1;exact Zm h1 (Ze h2 (rfl))))))
  ·exact Zc 43 [] [(6,.b false)] {} (Zb rfl (TC.ret (TE.ret [] (.b false) {} (by unfold KJ;refine eS (fun z=>(.b z:Value)) ?_;exact Ze h1 (rfl)))))
def V6 (i:Int) (k:Int) (x:List Za):Bool :=
 let r1:=cmp_Compare_int (((x[i.toNat]?.getD Za.zero).Track).Radius) (((x[k.toNat]?.getD Za.zero).Track).Radius)
 let r2:=cmp_Compare_int (((x[k.toNat]?.getD Za.zero).Track).Hits) (((x[i.toNat]?.getD Za.zero).Track).Hits)
 let r3:=cmp_Compare_int (((x[i.toNat]?.getD Za.zero).Track).ID) (((x[k.toNat]?.getD Za.zero).Track).ID)
 let r4:=cmp_Compare_int i k
 let r5:=Kq ([r1,r2,r3,r4])
 decide (r5<0)
theorem Bi (i:Int) (k:Int) (a_x:Addr) (A_x:Option Addr) (c_x:Nat) (x:List Za) (w:World) (h_x:Rd w 1 (some a_x) [Sl.c (⟨A_x,c_x,x⟩:Sl Za)]) (rr:(⟨A_x,c_x,x⟩:Sl Za).rd w 20 Za.c) (hi:0≤i∧i<(x.length:Int)) (hk:0≤k∧k<(x.length:Int)):Calls Tryz.prog 157 #[.int .i64 i,.int .i64 k,.pointer (some a_x)] w (Ret w (.bool (V6 i k x))):=by
 refine Zp (vs:=[.i i,.i k,.pointer (some a_x)]) (w:=w) Tryz.func157 rfl Tryz.ntmps157 rfl (Zf (Zc 1 [] [(5,.b false)] {} (Z1 (Jm (G:=Nat×Nat) (base:=[(0,.i i),(1,.i k),(2,.pointer (some a_x))]) (vals:=fun γ=>[.slice A_x x.length c_x,.i i,.pointer (some (Ix A_x (i.toNat*20))),.pointer (some (Ix A_x (i.toNat*20))),Track.v ((x[i.toNat]?.getD Za.zero).Track),.slice A_x x.length c_x,.i k,.pointer (some (Ix A_x (k.toNat*20))),.pointer (some (Ix A_x (k.toNat*20))),Track.v ((x[k.toNat]?.getD Za.zero).Track),.p0 γ.1,.p0 γ.2,undef,undef]) (writes:=[10,11,12,13]) (mem:=fun bs γ=>match bs with | [fl,fm,y5,x13_]=>(bif y5 then [Bk γ.1 (Track.c ((x[i.toNat]?.getD Za.zero).Track)) 40] else bif fl then [Bk γ.1 (Track.c Track.zero) 40] else [])++((bif x13_ then [Bk γ.2 (Track.c ((x[k.toNat]?.getD Za.zero).Track)) 40] else bif fm then [Bk γ.2 (Track.c Track.zero) 40] else [])++([]))|_=>[]) (0,0) (fun γ=>[(0,.i i),(1,.i k),(6,.p0 γ.1),(7,.p0 γ.2)]) Kr Kr Kr Kr Kr (fun γ=>Kr) (fun _ hM=>hM) (fun γ=>Kr) ?_ ?_))))
 ·skip
  exact XB (i:=0) (fun (γ:Nat×Nat)=>sV (Instr.loadAt 31 (.pointer (some a_x)))) (some 8) (fun (γ:Nat×Nat)=>.slice A_x x.length c_x) (fun _=>[]) Kr (fun S (γ:Nat×Nat) w _ hM=>by rw[mS4 rfl rfl rfl rfl] at hM;exact hM.sub (Zl (Zl (aB _)))) (fun (γ:Nat×Nat) w hM=>Zu (off:=0) (.slice A_x x.length c_x) (h_x.sat hM) (XU _) Kr Kr) (fun (γ:Nat×Nat)=>Kr) (fun (γ:Nat×Nat)=>Kr) (Steps.run (i:=1) 2 [0] [] Kr Kr (fun S (γ:Nat×Nat) w hM=>by rw[mS4 rfl rfl rfl rfl] at hM;exact hM.sub (Zl (Zl (aB _)))) Kr (fun (γ:Nat×Nat)=>{}) (XB (i:=2) (fun (γ:Nat×Nat)=>sV (Instr.indexAt 31 (.slice A_x x.length c_x) (.i i))) (some 10) (fun (γ:Nat×Nat)=>.pointer (some (Ix A_x (i.toNat*20)))) (fun _=>[]) Kr (fun S (γ:Nat×Nat) w _ hM=>by rw[mS4 rfl rfl rfl rfl] at hM;exact hM.sub (Zl (Zl (aB _)))) (fun (γ:Nat×Nat) w hM=>Zr (rr.rd.sat hM) (by simp) Kr sd sd) (fun (γ:Nat×Nat)=>Kr) (fun (γ:Nat×Nat)=>Kr) (Steps.run (i:=3) 4 [0] [] Kr Kr (fun S (γ:Nat×Nat) w hM=>by rw[mS4 rfl rfl rfl rfl] at hM;exact hM.sub (Zl (Zl (aB _)))) Kr (fun (γ:Nat×Nat)=>{}) (XB (i:=4) (fun (γ:Nat×Nat)=>sV (Instr.loadAt 40 (.pointer (some (Ix A_x (i.toNat*20)))))) (some 12) (fun (γ:Nat×Nat)=>Track.v ((x[i.toNat]?.getD Za.zero).Track)) (fun _=>[]) Kr (fun S (γ:Nat×Nat) w _ hM=>by rw[mS4 rfl rfl rfl rfl] at hM;exact hM.sub (Zl (Zl (aB _)))) (fun (γ:Nat×Nat) w hM=>Z9 (n:=13) (off:=0) (i:=i.toNat) (Track.v ((x[i.toNat]?.getD Za.zero).Track)) (rr.rd.sat hM) (Z6 (getD_at _ _ Za.zero sd)) Kr Kr Kr) (fun (γ:Nat×Nat)=>Kr) (fun (γ:Nat×Nat)=>Kr) (XB (i:=5) (fun (γ:Nat×Nat)=>sV (Instr.loadAt 31 (.pointer (some a_x)))) (some 13) (fun (γ:Nat×Nat)=>.slice A_x x.length c_x) (fun _=>[]) Kr (fun S (γ:Nat×Nat) w _ hM=>by rw[mS4 rfl rfl rfl rfl] at hM;exact hM.sub (Zl (Zl (aB _)))) (fun (γ:Nat×Nat) w hM=>Zu (off:=0) (.slice A_x x.length c_x) (h_x.sat hM) (XU _) Kr Kr) (fun (γ:Nat×Nat)=>Kr) (fun (γ:Nat×Nat)=>Kr) (Steps.run (i:=6) 7 [0] [] Kr Kr (fun S (γ:Nat×Nat) w hM=>by rw[mS4 rfl rfl rfl rfl] at hM;exact hM.sub (Zl (Zl (aB _)))) Kr (fun (γ:Nat×Nat)=>{}) (XB (i:=7) (fun (γ:Nat×Nat)=>sV (Instr.indexAt 31 (.slice A_x x.length c_x) (.i k))) (some 15) (fun (γ:Nat×Nat)=>.pointer (some (Ix A_x (k.toNat*20)))) (fun _=>[]) Kr (fun S (γ:Nat×Nat) w _ hM=>by rw[mS4 rfl rfl rfl rfl] at hM;exact hM.sub (Zl (Zl (aB _)))) (fun (γ:Nat×Nat) w hM=>Zr (rr.rd.sat hM) (by simp) Kr sd sd) (fun (γ:Nat×Nat)=>Kr) (fun (γ:Nat×Nat)=>Kr) (Steps.run (i:=8) 9 [0] [] Kr Kr (fun S (γ:Nat×Nat) w hM=>by rw[mS4 rfl rfl rfl rfl] at hM;exact hM.sub (Zl (Zl (aB _)))) Kr (fun (γ:Nat×Nat)=>{}) (XB (i:=9) (fun (γ:Nat×Nat)=>sV (Instr.loadAt 40 (.pointer (some (Ix A_x (k.toNat*20)))))) (some 17) (fun (γ:Nat×Nat)=>Track.v ((x[k.toNat]?.getD Za.zero).Track)) (fun _=>[]) Kr (fun S (γ:Nat×Nat) w _ hM=>by rw[mS4 rfl rfl rfl rfl] at hM;exact hM.sub (Zl (Zl (aB _)))) (fun (γ:Nat×Nat) w hM=>Z9 (n:=13) (off:=0) (i:=k.toNat) (Track.v ((x[k.toNat]?.getD Za.zero).Track)) (rr.rd.sat hM) (Z6 (getD_at _ _ Za.zero sd)) Kr Kr Kr) (fun (γ:Nat×Nat)=>Kr) (fun (γ:Nat×Nat)=>Kr) (Steps.op (i:=10) (Γ:=Nat) (fun g (γ:Nat×Nat)=>(g,γ.2)) (fun _=>[]) (fun b (γ:Nat×Nat)=>[Bk b (Track.c Track.zero) 40]) (fun S (γ:Nat×Nat)=>(bif S 13 then [Bk γ.2 (Track.c ((x[k.toNat]?.getD Za.zero).Track)) 40] else bif S 11 then [Bk γ.2 (Track.c Track.zero) 40] else [])++([])) [10,12,13] (fun (γ:Nat×Nat)=>sV (Instr.alloc 40 true (.tuple #[]))) (some 6) (fun b (γ:Nat×Nat)=>.p0 b) (fun S (γ:Nat×Nat) hj hd hl=>by rw[mS4 hj rfl (hl 12 Kr) rfl];exact aC _) (fun S (γ:Nat×Nat) g hl=>by rw[mS4 (S:=upS S 10) (a0:=10) (a1:=11) (a2:=12) (a3:=13) rfl rfl (hl 12 Kr) rfl];exact(aC _).symm) (fun (γ:Nat×Nat) M' w hM=>Q4 (v:=fun b=>.p0 b) (fun b M=>Kr) M' w hM) (fun (γ:Nat×Nat)=>Kr) (fun (γ:Nat×Nat) g=>Kr) Kr (fun (γ:Nat×Nat) g=>Kr) (Steps.op (i:=11) (Γ:=Nat) (fun g (γ:Nat×Nat)=>(γ.1,g)) (fun _=>[]) (fun b (γ:Nat×Nat)=>[Bk b (Track.c Track.zero) 40]) (fun S (γ:Nat×Nat)=>(bif S 12 then [Bk γ.1 (Track.c ((x[i.toNat]?.getD Za.zero).Track)) 40] else bif S 10 then [Bk γ.1 (Track.c Track.zero) 40] else [])++([])) [11,12,13] (fun (γ:Nat×Nat)=>sV (Instr.alloc 40 true (.tuple #[]))) (some 7) (fun b (γ:Nat×Nat)=>.p0 b) (fun S (γ:Nat×Nat) hj hd hl=>by rw[mS4 rfl hj rfl (hl 13 Kr)];exact(aA _ (aC _)).trans (ZC _ _ _)) (fun S (γ:Nat×Nat) g hl=>by rw[mS4 (S:=upS S 11) (a0:=10) (a1:=11) (a2:=12) (a3:=13) rfl rfl rfl (hl 13 Kr)];exact((aA _ (aC _)).trans (ZC _ _ _)).symm) (fun (γ:Nat×Nat) M' w hM=>Q4 (v:=fun b=>.p0 b) (fun b M=>Kr) M' w hM) (fun (γ:Nat×Nat)=>Kr) (fun (γ:Nat×Nat) g=>Kr) Kr (fun (γ:Nat×Nat) g=>Kr) (Steps.put (i:=12) (fun (γ:Nat×Nat)=>[Bk γ.1 (Track.c Track.zero) 40]) (fun (γ:Nat×Nat)=>[Bk γ.1 (Track.c ((x[i.toNat]?.getD Za.zero).Track)) 40]) (fun S (γ:Nat×Nat)=>(bif S 13 then [Bk γ.2 (Track.c ((x[k.toNat]?.getD Za.zero).Track)) 40] else bif S 11 then [Bk γ.2 (Track.c Track.zero) 40] else [])++([])) (fun (γ:Nat×Nat)=>sU (Instr.storeAt 40 (.p0 γ.1) (Track.v ((x[i.toNat]?.getD Za.zero).Track)))) none (fun S (γ:Nat×Nat) hj hd hl=>by rw[mS4 (hd 10 Kr) rfl hj rfl];exact aC _) (fun S (γ:Nat×Nat) _=>(aC _).symm) (fun (γ:Nat×Nat) M' w hM=>JB (fun b M=>Kr) (fun b M=>Kr) M' w hM) (fun (γ:Nat×Nat)=>Kr) (fun (γ:Nat×Nat)=>Kr) (Steps.put (i:=13) (fun (γ:Nat×Nat)=>[Bk γ.2 (Track.c Track.zero) 40]) (fun (γ:Nat×Nat)=>[Bk γ.2 (Track.c ((x[k.toNat]?.getD Za.zero).Track)) 40]) (fun S (γ:Nat×Nat)=>(bif S 12 then [Bk γ.1 (Track.c ((x[i.toNat]?.getD Za.zero).Track)) 40] else bif S 10 then [Bk γ.1 (Track.c Track.zero) 40] else [])++([])) (fun (γ:Nat×Nat)=>sU (Instr.storeAt 40 (.p0 γ.2) (Track.v ((x[k.toNat]?.getD Za.zero).Track)))) none (fun S (γ:Nat×Nat) hj hd hl=>by rw[mS4 rfl (hd 11 Kr) rfl hj];exact(aA _ (aC _)).trans (ZC _ _ _)) (fun S (γ:Nat×Nat) _=>((aA _ (aC _)).trans (ZC _ _ _)).symm) (fun (γ:Nat×Nat) M' w hM=>JB (fun b M=>Kr) (fun b M=>Kr) M' w hM) (fun (γ:Nat×Nat)=>Kr) (fun (γ:Nat×Nat)=>Kr) (X6 Kr))))))))))))))
 ·rintro⟨b1,b2⟩
  exact Yi [Bk b1 (Track.c ((x[i.toNat]?.getD Za.zero).Track)) 40,Bk b2 (Track.c ((x[k.toNat]?.getD Za.zero).Track)) 40] (fun _ hM=>hM) (Z3 (TC.seq (Ko 18 Kr Kr (YY 4 [0,1] [(19,.i (((x[i.toNat]?.getD Za.zero).Track).Radius)),(21,.i (((x[k.toNat]?.getD Za.zero).Track).Radius))] {} (TQ.c 22 (cmp_Compare_int (((x[i.toNat]?.getD Za.zero).Track).Radius) (((x[k.toNat]?.getD Za.zero).Track).Radius)) (fun r1=>.i r1) (fun w _=>Y0 (((x[i.toNat]?.getD Za.zero).Track).Radius) (((x[k.toNat]?.getD Za.zero).Track).Radius) w) rfl {} (fun r1 hr1=>YY 9 [1,0] [(24,.i (((x[k.toNat]?.getD Za.zero).Track).Hits)),(26,.i (((x[i.toNat]?.getD Za.zero).Track).Hits))] {} (TQ.c 27 (cmp_Compare_int (((x[k.toNat]?.getD Za.zero).Track).Hits) (((x[i.toNat]?.getD Za.zero).Track).Hits)) (fun r2=>.i r2) (fun w _=>Y0 (((x[k.toNat]?.getD Za.zero).Track).Hits) (((x[i.toNat]?.getD Za.zero).Track).Hits) w) rfl {} (fun r2 hr2=>YY 14 [0,1] [(29,.i (((x[i.toNat]?.getD Za.zero).Track).ID)),(31,.i (((x[k.toNat]?.getD Za.zero).Track).ID))] {} (TQ.c 32 (cmp_Compare_int (((x[i.toNat]?.getD Za.zero).Track).ID) (((x[k.toNat]?.getD Za.zero).Track).ID)) (fun r3=>.i r3) (fun w _=>Y0 (((x[i.toNat]?.getD Za.zero).Track).ID) (((x[k.toNat]?.getD Za.zero).Track).ID) w) rfl {} (fun r3 hr3=>YY 17 [] [(33,.i i),(34,.i k)] {} (TQ.c 35 (cmp_Compare_int i k) (fun r4=>.i r4) (fun w _=>Y0 i k w) rfl {} (fun r4 hr4=>TQ.tail rfl (ZA 36 (fun b3=>.slice (Pa b3) 4 4) (fun b3=>Bk b3 #[.i r1,.i r2,.i r3,.i r4] 3) (fun b3=>{}) (fun b3=>TL.c 37 (Kq ([r1,r2,r3,r4])) (fun r5=>.i r5) (fun w hM=>UT (Pa b3) 4 ([r1,r2,r3,r4]) w (Rd.lit hM 0 _ rfl Kr Kr Kr) (aU _)) {} (fun r5 hr5=>Zc 22 [] [(5,.b (decide (r5<0)))] {} (Zb rfl (TC.ret (TE.ret [] (.b (decide (r5<0))) {} (by unfold V6;refine eS (fun z=>(.b z:Value)) ?_;subst hr1 hr2 hr3 hr4 hr5;exact rfl)))))))))))))))))))
def JX:List Za→Nat→((Unit) ⊕ ((List Za)×Int))
 | [],_=>.inl ()
 | x::xs,k=>let r1:=ZP x
  cond (r1 != 0) (
   .inr ([],r1)) (
   JX xs (k+1))
def Q5 (l:List Za) (qi:Int) (k_2:Nat) (x_2:Za):List Za→Nat→Bool→Bool
 | [],_,keep=>keep
 | x_3::xs,k_3,keep=>cond ((k_3:Int) != (k_2:Int)) (
   let r3:=KJ x_2 x_3 qi
   cond ((r3&&(x_2.Track.Code==x_3.Track.Code))&&(x_2.Track.Code != (-1))) (
    let r4:=V6 (k_3:Int) (k_2:Int) l
    cond r4 (
     Q5 l qi k_2 x_2 xs (k_3+1) false) (
     Q5 l qi k_2 x_2 xs (k_3+1) keep)) (
    Q5 l qi k_2 x_2 xs (k_3+1) keep)) (
   Q5 l qi k_2 x_2 xs (k_3+1) keep)
def QU (l:List Za) (qi:Int):List Za→Nat→(List Za)→(List Za)
 | [],_,out=>out
 | x_2::xs,k_2,out=>YB (Q5 l qi k_2 x_2 l 0 true) (fun wa =>
   cond wa (
    QU l qi xs (k_2+1) (out++([x_2]))) (
    QU l qi xs (k_2+1) out))
def XO (l:List Za) (qi:Int):List Za×Int :=
 cond (decide ((l.length:Int)>32)) (
  ([],2)) (
  Sum.elim (fun _ =>
   let r2:=Vd qi
   cond r2 (
    ([],4)) (
    YB (QU l qi l 0 ([]:List Za)) (fun qk =>
     (qk,0)))) (fun r=>r) (JX l 0))
set_option maxHeartbeats 4000000 in
theorem Fj (A_l:Option Addr) (c_l:Nat) (l:List Za) (qi:Int) (w:World) (h_l:Rd w 20 A_l (l.map Za.c)) (km:l.length≤c_l):Calls Tryz.prog 114 #[.slice A_l l.length c_l,.int .i64 qi] w (JH (Γ:=(Option Addr×Nat)) (cx w) (fun g=>.tuple #[.slice g.1 ((XO l qi).1.length) g.2,.int .i64 ((XO l qi).2)]) (fun g=>[.inr (Own g.1 g.2 44 20 (((XO l qi).1).map Za.c))])):=by
 have s_l:=h_l.short;rw[aD] at s_l
 refine Zp (vs:=[.slice A_l l.length c_l,.i qi]) (w:=w) Tryz.func114 rfl Tryz.ntmps114 rfl (Zf (ZA 2 (fun b1=>.p0 b1) (fun b1=>Bk b1 #[.slice A_l l.length c_l] 31) (fun b1=>{}) (fun b1=>Zc 3 [] [(4,.slice none 0 0),(5,.i 0)] {} (Z1 (Zf (Zc 3 [0] [(18,.b (decide ((l.length:Int)>32)))] {} (Zb rfl (TC.cond (decide ((l.length:Int)>32)) rfl Kr (fun h1=>?_) (fun h1=>?_)))))))))
 ·refine Zf (Zc 2 [] [(4,.slice none 0 0),(5,.i 2)] {} (Zb rfl (TC.ret (Zo ?_))))
  have e:XO l qi=([],2):=by unfold XO;exact Zm h1 (rfl)
  refine Yi [Ow none 0 44 20 (([]:List Za).map Za.c),Bk b1 #[.slice A_l l.length c_l] 31] (fun _ hM=>hM.emptyrow none 44 20) ?_
  rw[e]
  exact ZO (.inl rfl) (none,0) [] (.tuple #[.slice none 0 0,.i 2]) {} rfl (fun _ hM=>hM.sub (sb 1))
 ·have vm:=(Zv h1)
  refine Yg (TC.seq (Zf (Zc 3 [0] [(19,.slice A_l l.length c_l),(20,.i (l.length:Int)),(21,.i 0)] {} (Zb rfl ?_))))
  obtain⟨R2,hR⟩:∃ R,R=JX l 0:=⟨_,rfl⟩
  refine TC.cut (S:=Unit) (fun (_:Unit)=>[(1,.i qi),(2,.p0 b1)]) (fun (_:Unit)=>[Bk b1 #[.slice A_l l.length c_l] 31]) (fun (_:Unit)=>R2=.inl ()) ?_ ?_
  ·refine TC.block (Xp (X:=Nat) (fun k=>[(1,.i qi),(2,.p0 b1),(19,.slice A_l l.length c_l),(20,.i (l.length:Int)),(21,.i (k:Int))]) (fun k=>[Bk b1 #[.slice A_l l.length c_l] 31]) (fun k=>l.length-k) (fun k=>k≤l.length∧R2=JX (l.drop k) k) ?_ 0 ⟨aP _,hR⟩ Kr (sb 1))
   rintro k ⟨hk,hI⟩
   refine Zf (Zc 1 [] [(22,.b (decide ((k:Int)<(l.length:Int))))] {} (Z1 (TC.cond (decide ((k:Int)<(l.length:Int))) rfl Kr (fun h2=>?_) (fun h2=>?_))))
   ·have hlt:=ltN h2
    obtain⟨x,hx⟩:=elN hlt
    have hd:=drop_at hx
    refine Yg (TC.seq (TC.block (Zf (TL.v (sV (Instr.indexAt 31 (.slice A_l l.length c_l) (.i (k:Int)))) 23 (.pointer (some (Ix A_l (k*20)))) (fun w hM=>Zr (h_l.sat hM) (by simp) Kr sd sd) {} (TL.v (sV (Instr.loadAt 44 (.pointer (some (Ix A_l (k*20)))))) 24 (Za.v x) (fun w hM=>Z9 (n:=20) (off:=0) (i:=k) (Za.v x) (h_l.sat hM) (Z6 hx) Kr Kr Kr) {} (ZA 7 (fun b2=>.p0 b2) (fun b2=>Bk b2 (Za.c Za.zero) 44) (fun b2=>{}) (fun b2=>Yp 0 (Bk b2 (Za.c x) 44) (fun _=>{}) (Zz (Zc 1 [0] [(25,Za.v x)] {} (TL.c 26 (ZP x) (fun r1=>.i r1) (fun w _=>QS x w) {} (fun r1 hr1=>Zc 3 [] [(8,.i r1)] {} (Zz (Zc 2 [] [(28,.b (r1 != 0))] {} (Zb rfl (TC.cond (r1 != 0) rfl Kr (fun h3=>?_) (fun h3=>?_))))))))))))))))
    ·refine Zf (Zc 3 [] [(4,.slice none 0 0),(5,.i r1)] {} (Zb rfl (TC.ret (ZL (Zo (Zo (ZL (Zo (Zo ?_)))))))))
     have e:XO l qi=([],r1):=by subst hr1;unfold XO;exact Ze h1 (Xh (hR.symm.trans (hI.trans (by rw[hd];exact Zm h3 (rfl)))) rfl)
     refine Yi [Ow none 0 44 20 (([]:List Za).map Za.c),Bk b2 (Za.c x) 44,Bk b1 #[.slice A_l l.length c_l] 31] (fun _ hM=>hM.emptyrow none 44 20) ?_
     rw[e]
     exact ZO (.inl rfl) (none,0) [] (.tuple #[.slice none 0 0,.i r1]) {} rfl (fun _ hM=>hM.sub (sb 1))
    ·have y2:=(QA h3)
     exact TC.skip (ZY (Z3 (TC.region (Zc 2 [] [(21,.i (w64 ((k:Int)+1)))] {} (Zw rfl (TE.rw 21 (.i (w64 ((k:Int)+1))) (.i ((k+1:Nat):Int)) Kr (ZD k (by omega)) (Z4 (x:=k) (k+1) ⟨by omega,hI.trans (by subst hr1;rw[hd];exact Ze h3 (rfl))⟩ (mN hlt) Kr (sb 2))))))))
   ·have hd:=Qb h2
    refine TC.exit (ZT (ZT (Z0 ?_)))
    exact TE.cut () (hI.trans (by rw[hd];exact rfl)) Kr (sb 1)
  ·intro _ hJ
   refine Z3 (TC.seq (Zf (Zc 1 [] [(31,.i qi)] {} (TL.c 32 (Vd qi) (fun r2=>.b r2) (fun w _=>WP qi w) {} (fun r2 hr2=>Zb rfl (TC.cond r2 rfl Kr (fun h4=>?_) (fun h4=>?_)))))))
   ·refine Zf (Zc 2 [] [(4,.slice none 0 0),(5,.i 4)] {} (Zb rfl (TC.ret (Zo ?_))))
    have e:XO l qi=([],4):=by subst hr2;unfold XO;exact Ze h1 (Q3 (hR.symm.trans hJ) (Zm h4 (rfl)))
    refine Yi [Ow none 0 44 20 (([]:List Za).map Za.c),Bk b1 #[.slice A_l l.length c_l] 31] (fun _ hM=>hM.emptyrow none 44 20) ?_
    rw[e]
    exact ZO (.inl rfl) (none,0) [] (.tuple #[.slice none 0 0,.i 4]) {} rfl (fun _ hM=>hM.sub (sb 1))
   ·refine Yc (Zc 2 [] [(9,.func (.func 157) #[] #[.p0 b1])] {} (Zz (Zc 1 [] [(10,.slice none 0 0)] {} (Z1 (Zf (Zc 3 [0] [(34,.slice A_l l.length c_l),(35,.i (l.length:Int)),(36,.i 0)] {} (Zb rfl (Q0 [Ow none 0 44 20 (([]:List Za).map Za.c),Bk b1 #[.slice A_l l.length c_l] 31] (fun _ hM=>hM.emptyrow none 44 20) ?_))))))))
    obtain⟨R6,xo⟩:∃ R,R=QU l qi l 0 ([]:List Za):=⟨_,rfl⟩
    refine TC.cut (S:=(List Za)×(Option Addr)×Nat) (fun (qk,A_out_2,qe)=>[(10,.slice A_out_2 qk.length qe)]) (fun (qk,A_out_2,qe)=>[Ow A_out_2 qe 44 20 (qk.map Za.c)]) (fun (qk,A_out_2,qe)=>R6=qk∧qk.length≤l.length) ?_ ?_
    ·refine TC.block (Xp (X:=Nat×(List Za)×(Option Addr)×Nat) (fun (k_2,out,A_out,qh)=>[(1,.i qi),(2,.p0 b1),(9,.func (.func 157) #[] #[.p0 b1]),(10,.slice A_out out.length qh),(34,.slice A_l l.length c_l),(35,.i (l.length:Int)),(36,.i (k_2:Int))]) (fun (k_2,out,A_out,qh)=>[Ow A_out qh 44 20 (out.map Za.c),Bk b1 #[.slice A_l l.length c_l] 31]) (fun (k_2,out,A_out,qh)=>l.length-k_2) (fun (k_2,out,A_out,qh)=>k_2≤l.length∧R6=QU l qi (l.drop k_2) k_2 out∧out.length≤k_2) ?_ (0,([]:List Za),none,0) ⟨aP _,xo,sz⟩ Kr (sb 3))
     rintro⟨k_2,out,A_out,qh⟩ ⟨y4,xg,kn⟩
     refine Zf (Zc 1 [] [(37,.b (decide ((k_2:Int)<(l.length:Int))))] {} (Z1 (TC.cond (decide ((k_2:Int)<(l.length:Int))) rfl Kr (fun h5=>?_) (fun h5=>?_))))
     ·have zk:=ltN h5
      obtain⟨x_2,jf⟩:=elN zk
      have zr:=drop_at jf
      refine Yg (TC.seq (TC.block (Zf (Zc 1 [] [(38,.i (k_2:Int))] {} (TL.v (sV (Instr.indexAt 31 (.slice A_l l.length c_l) (.i (k_2:Int)))) 39 (.pointer (some (Ix A_l (k_2*20)))) (fun w hM=>Zr (h_l.sat hM) (by simp) Kr sd sd) {} (TL.v (sV (Instr.loadAt 44 (.pointer (some (Ix A_l (k_2*20)))))) 40 (Za.v x_2) (fun w hM=>Z9 (n:=20) (off:=0) (i:=k_2) (Za.v x_2) (h_l.sat hM) (Z6 jf) Kr Kr Kr) {} (ZA 12 (fun b3=>.p0 b3) (fun b3=>Bk b3 (Za.c Za.zero) 44) (fun b3=>{}) (fun b3=>Zc 5 [] [(11,.i (k_2:Int))] {} (Yp 0 (Bk b3 (Za.c x_2) 44) (fun _=>{}) (Zz (Zc 1 [] [(13,.b true)] {} (Z1 (Zf (Zc 3 [2] [(41,.slice A_l l.length c_l),(42,.i (l.length:Int)),(43,.i 0)] {} (Zb rfl ?_)))))))))))))))
      obtain⟨R7,yd⟩:∃ R,R=Q5 l qi k_2 x_2 l 0 true:=⟨_,rfl⟩
      refine TC.cut (S:=Bool) (fun wa=>[(1,.i qi),(2,.p0 b1),(9,.func (.func 157) #[] #[.p0 b1]),(10,.slice A_out out.length qh),(12,.p0 b3),(13,.b wa),(34,.slice A_l l.length c_l),(35,.i (l.length:Int)),(36,.i (k_2:Int))]) (fun wa=>[Bk b3 (Za.c x_2) 44,Ow A_out qh 44 20 (out.map Za.c),Bk b1 #[.slice A_l l.length c_l] 31]) (fun wa=>R7=wa) ?_ ?_
      ·refine TC.block (Xp (X:=Nat×Bool) (fun (k_3,keep)=>[(1,.i qi),(2,.p0 b1),(9,.func (.func 157) #[] #[.p0 b1]),(10,.slice A_out out.length qh),(11,.i (k_2:Int)),(12,.p0 b3),(13,.b keep),(34,.slice A_l l.length c_l),(35,.i (l.length:Int)),(36,.i (k_2:Int)),(41,.slice A_l l.length c_l),(42,.i (l.length:Int)),(43,.i (k_3:Int))]) (fun (k_3,keep)=>[Bk b3 (Za.c x_2) 44,Ow A_out qh 44 20 (out.map Za.c),Bk b1 #[.slice A_l l.length c_l] 31]) (fun (k_3,keep)=>l.length-k_3) (fun (k_3,keep)=>k_3≤l.length∧R7=Q5 l qi k_2 x_2 (l.drop k_3) k_3 keep) ?_ (0,true) ⟨aP _,yd⟩ Kr (sb 7))
       rintro⟨k_3,keep⟩ ⟨ln,kr⟩
       refine Zf (Zc 1 [] [(44,.b (decide ((k_3:Int)<(l.length:Int))))] {} (Z1 (TC.cond (decide ((k_3:Int)<(l.length:Int))) rfl Kr (fun h6=>?_) (fun h6=>?_))))
       ·have kx:=ltN h6
        obtain⟨x_3,pz⟩:=elN kx
        have ky:=drop_at pz
        refine Yg (TC.seq (TC.block (Zf (Zc 1 [] [(45,.i (k_3:Int))] {} (TL.v (sV (Instr.indexAt 31 (.slice A_l l.length c_l) (.i (k_3:Int)))) 46 (.pointer (some (Ix A_l (k_3*20)))) (fun w hM=>Zr (h_l.sat hM) (by simp) Kr sd sd) {} (TL.v (sV (Instr.loadAt 44 (.pointer (some (Ix A_l (k_3*20)))))) 47 (Za.v x_3) (fun w hM=>Z9 (n:=20) (off:=0) (i:=k_3) (Za.v x_3) (h_l.sat hM) (Z6 pz) Kr Kr Kr) {} (ZA 15 (fun b4=>.p0 b4) (fun b4=>Bk b4 (Za.c Za.zero) 44) (fun b4=>{}) (fun b4=>Zc 5 [] [(14,.i (k_3:Int))] {} (Yp 0 (Bk b4 (Za.c x_3) 44) (fun _=>{}) (Zz (Zc 4 [] [(51,.b ((k_3:Int) != (k_2:Int)))] {} (Yy 51 ((k_3:Int) != (k_2:Int)) Kr (fun h7=>?_) (fun h7=>?_)))))))))))))
        ·have yr:=(F5 h7)
         refine Zc 7 [1,0] [(52,Za.v x_2),(53,Za.v x_3),(54,.i qi)] {} (TL.c 55 (KJ x_2 x_3 qi) (fun r3=>.b r3) (fun w _=>Ls x_2 x_3 qi w) {} (fun r3 hr3=>Zc 10 [] [(57,.b r3)] {} (XM 57 r3 18 [1,0] [] (fun β=>[(65,.b (β&&(x_2.Track.Code==x_3.Track.Code)))]) Kr {} {} (Zc 19 [] [(66,.b (r3&&(x_2.Track.Code==x_3.Track.Code)))] {} (XM 66 (r3&&(x_2.Track.Code==x_3.Track.Code)) 24 [1] [] (fun β=>[(71,.b (β&&(x_2.Track.Code != (-1))))]) Kr {} {} (Zc 25 [] [(72,.b ((r3&&(x_2.Track.Code==x_3.Track.Code))&&(x_2.Track.Code != (-1))))] {} (Yy 72 ((r3&&(x_2.Track.Code==x_3.Track.Code))&&(x_2.Track.Code != (-1))) Kr (fun h8=>?_) (fun h8=>?_))))))))
         ·have fk:=(YT (K4 (Js h8)))
          have ct:=(F5 (K4 h8))
          refine Zc 28 [] [(73,.func (.func 157) #[] #[.p0 b1]),(74,.i (k_3:Int)),(75,.i (k_2:Int))] {} (TL.c 76 (V6 (k_3:Int) (k_2:Int) l) (fun r4=>.b r4) (fun w hM=>Bi (k_3:Int) (k_2:Int) ⟨b1,0,none⟩ A_l c_l l w (Rd.lit hM 3 _ rfl Kr Kr Kr) ⟨(h_l.sat hM),km⟩ sg sg) {} (fun r4 hr4=>Zc 30 [] [(77,.b r4)] {} (Zb rfl (TC.cond r4 rfl Kr (fun h9=>?_) (fun h9=>?_)))))
          ·exact TC.region (Zc 1 [] [(13,.b false)] {} (Zw rfl (ZY (Z3 (TC.region (Zc 2 [] [(43,.i (w64 ((k_3:Int)+1)))] {} (Zw rfl (TE.rw 43 (.i (w64 ((k_3:Int)+1))) (.i ((k_3+1:Nat):Int)) Kr (ZD k_3 (by omega)) (Z4 (x:=(k_3,keep)) (k_3+1,false) ⟨by omega,kr.trans (by subst hr2 hr3 hr4;rw[ky];exact Zm h7 (Zm h8 (Zm h9 (rfl))))⟩ (mN kx) Kr (sb 14))))))))))
          ·exact TC.skip (ZY (Z3 (TC.region (Zc 2 [] [(43,.i (w64 ((k_3:Int)+1)))] {} (Zw rfl (TE.rw 43 (.i (w64 ((k_3:Int)+1))) (.i ((k_3+1:Nat):Int)) Kr (ZD k_3 (by omega)) (Z4 (x:=(k_3,keep)) (k_3+1,keep) ⟨by omega,kr.trans (by subst hr2 hr3 hr4;rw[ky];exact Zm h7 (Zm h8 (Ze h9 (rfl))))⟩ (mN kx) Kr (sb 14))))))))
         ·exact Zc 30 [] [(77,.b false)] {} (Zb rfl (J1 rfl Kr (TC.skip (ZY (Z3 (TC.region (Zc 2 [] [(43,.i (w64 ((k_3:Int)+1)))] {} (Zw rfl (TE.rw 43 (.i (w64 ((k_3:Int)+1))) (.i ((k_3+1:Nat):Int)) Kr (ZD k_3 (by omega)) (Z4 (x:=(k_3,keep)) (k_3+1,keep) ⟨by omega,kr.trans (by subst hr2 hr3;rw[ky];exact Zm h7 (Ze h8 (rfl)))⟩ (mN kx) Kr (sb 14)))))))))))
        ·have yr:=(QA h7)
         exact Zc 30 [] [(77,.b false)] {} (Zb rfl (J1 rfl Kr (TC.skip (ZY (Z3 (TC.region (Zc 2 [] [(43,.i (w64 ((k_3:Int)+1)))] {} (Zw rfl (TE.rw 43 (.i (w64 ((k_3:Int)+1))) (.i ((k_3+1:Nat):Int)) Kr (ZD k_3 (by omega)) (Z4 (x:=(k_3,keep)) (k_3+1,keep) ⟨by omega,kr.trans (by subst hr2;rw[ky];exact Ze h7 (rfl))⟩ (mN kx) Kr (sb 14)))))))))))
       ·have ky:=Qb h6
        refine TC.exit (ZT (ZT (Z0 ?_)))
        exact TE.cut keep (kr.trans (by subst hr2;rw[ky];exact rfl)) Kr (sb 7)
      ·rintro wa gv
       refine YC (Zc 1 [] [(79,.b wa)] {} (Zb rfl (TC.cond wa rfl Kr (fun h10=>?_) (fun h10=>?_))))
       ·refine TC.region (Zc 2 [0] [(80,.slice A_out out.length qh),(81,Za.v x_2)] {} (ZA 82 (fun b5=>.slice (Pa b5) 1 1) (fun b5=>Bk b5 (Za.c x_2) 44) (fun b5=>{}) (fun b5=>TL.os (Γ:=AN) (sV (Builtin.append_ #[31,31] 31 #[.slice A_out out.length qh,.slice (Pa b5) 1 1])) 83 (fun g=>.slice g.1 (out++([x_2])).length g.2) 2 (fun g=>Ow g.1 g.2 44 20 ((out++([x_2])).map Za.c)) (QE (bytes:=160) 31 2 ([x_2]) Kr rfl rfl Za.one rfl (fun w hM=>(Rd.lit hM 0 _ rfl Kr Kr Kr)) rfl sa) {} ?_)))
        rintro⟨A,c⟩
        exact Zc 5 [] [(10,.slice A ((out++([x_2])).length) c)] {} (Zw rfl (ZY (Z3 (TC.region (Zc 2 [] [(36,.i (w64 ((k_2:Int)+1)))] {} (Zw rfl (TE.rw 36 (.i (w64 ((k_2:Int)+1))) (.i ((k_2+1:Nat):Int)) Kr (ZD k_2 (by omega)) (Z4 (x:=(k_2,out,A_out,qh)) (k_2+1,(out++([x_2])),A,c) ⟨by omega,xg.trans (by subst hr2;rw[zr];exact Yr (yd.symm.trans gv) (Zm h10 (rfl))),sl⟩ (mN zk) Kr (sb 12)))))))))
       ·exact TC.skip (ZY (Z3 (TC.region (Zc 2 [] [(36,.i (w64 ((k_2:Int)+1)))] {} (Zw rfl (TE.rw 36 (.i (w64 ((k_2:Int)+1))) (.i ((k_2+1:Nat):Int)) Kr (ZD k_2 (by omega)) (Z4 (x:=(k_2,out,A_out,qh)) (k_2+1,out,A_out,qh) ⟨by omega,xg.trans (by subst hr2;rw[zr];exact Yr (yd.symm.trans gv) (Ze h10 (rfl))),sl⟩ (mN zk) Kr (sb 6))))))))
     ·have zr:=Qb h5
      refine TC.exit (ZT (ZT (Z0 ?_)))
      exact TE.cut (out,A_out,qh) (⟨xg.trans (by subst hr2;rw[zr];exact rfl),sl⟩) Kr (sb 1)
    ·rintro⟨qk,A_out_2,qe⟩ ⟨jv,jw⟩
     refine YC (Zc 3 [] [(4,.slice A_out_2 qk.length qe),(5,.i 0)] {} (Zb rfl (TC.ret ?_)))
     have e:XO l qi=(qk,0):=by subst hr2;unfold XO;exact Ze h1 (Q3 (hR.symm.trans hJ) (Ze h4 (Yr (xo.symm.trans jv) (rfl))))
     rw[e]
     exact ZO (.inl rfl) (A_out_2,qe) [] (.tuple #[.slice A_out_2 qk.length qe,.i 0]) {} rfl (fun _ hM=>hM.sub (sb 1))
end Go.Sky
end
