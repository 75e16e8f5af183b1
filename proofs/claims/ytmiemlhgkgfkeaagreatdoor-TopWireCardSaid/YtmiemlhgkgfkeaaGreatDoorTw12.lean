/- Lemmas toward the given statement (part 12 of 20): Wd Ka GrowNil Clear Kb. Each theorem states its own conditions; nothing is assumed beyond them. -/
import Derived.Test.YtmiemlhgkgfkeaaGreatDoorTw03
import Derived.Test.YtmiemlhgkgfkeaaGreatDoorTw11
import Derived.Test.YtmiemlhgkgfkeaaGreatDoorTw10
import Derived.Test.YtmiemlhgkgfkeaaGreatDoorTw02
import Derived.Lib.AppendZerosOnto
set_option maxRecDepth 100000
section
namespace Go.Sky
open Go Go.Eng Go.Proofs
def Xv (f:Za) (z7:Int):Za×Bool×Int :=
 let r1:=ZL f
 cond (r1 != 0) (
  ((⟨⟨0,0,0,⟨0,0⟩,⟨0,0⟩,0,0,0,0,0,0⟩,0,⟨0,⟨0,0⟩,0,0,0⟩⟩:Za),false,r1)) (
  cond ((decide (z7<0))||(decide (z7>100))) (
   ((⟨⟨0,0,0,⟨0,0⟩,⟨0,0⟩,0,0,0,0,0,0⟩,0,⟨0,⟨0,0⟩,0,0,0⟩⟩:Za),false,4)) (
   cond (decide (f.Track.Misses<101)) (
    cond (f.Track.State==1) (
     ((⟨⟨f.Track.ID,2,f.Track.Time,f.Track.At,f.Track.Speed,f.Track.Height,f.Track.Rate,f.Track.Radius,f.Track.Code,f.Track.Hits,w64 (f.Track.Misses+1)⟩,f.Slack,f.Last⟩:Za),decide ((w64 (f.Track.Misses+1))>z7),0)) (
     ((⟨⟨f.Track.ID,f.Track.State,f.Track.Time,f.Track.At,f.Track.Speed,f.Track.Height,f.Track.Rate,f.Track.Radius,f.Track.Code,f.Track.Hits,w64 (f.Track.Misses+1)⟩,f.Slack,f.Last⟩:Za),decide ((w64 (f.Track.Misses+1))>z7),0))) (
    cond (f.Track.State==1) (
     ((⟨⟨f.Track.ID,2,f.Track.Time,f.Track.At,f.Track.Speed,f.Track.Height,f.Track.Rate,f.Track.Radius,f.Track.Code,f.Track.Hits,101⟩,f.Slack,f.Last⟩:Za),decide (101>z7),0)) (
     ((⟨⟨f.Track.ID,f.Track.State,f.Track.Time,f.Track.At,f.Track.Speed,f.Track.Height,f.Track.Rate,f.Track.Radius,f.Track.Code,f.Track.Hits,101⟩,f.Slack,f.Last⟩:Za),decide (101>z7),0)))))
set_option maxHeartbeats 4000000 in
theorem NA (f:Za) (z7:Int) (w:World):Calls Tryz.prog 50 #[Za.v f,.int .i64 z7] w (Ret w (.tuple #[Za.v ((Xv f z7).1),.bool ((Xv f z7).2.1),.int .i64 ((Xv f z7).2.2)])):=by
 refine Zo (vs:=[Za.v f,.i z7]) (w:=w) Tryz.func50 rfl Tryz.ntmps50 rfl (Ze (ZH 2 (fun b1=>.p0 b1) (fun b1=>Bk b1 (Za.c f) 107) (fun b1=>{}) (fun b1=>ZH 4 (fun b2=>.p0 b2) (fun b2=>Bk b2 (Za.c Za.zero) 107) (fun b2=>{}) (fun b2=>Zc 4 [] [(5,.b false),(6,.i 0)] {} (Zz (Ze (Zc 1 [1] [(8,Za.v f)] {} (TL.c 9 (ZL f) (fun r1=>.i r1) (fun w _=>QK f w) {} (fun r1 hr1=>Zc 3 [] [(7,.i r1)] {} (Zv (Zc 2 [] [(11,.b (r1 != 0))] {} (Zb rfl (TC.cond (r1 != 0) rfl Kr (fun h1=>?_) (fun h1=>?_))))))))))))))
 ·exact Ze (Zc 2 [] [(12,Za.v Za.zero),(13,.i r1)] {} (Ym 0 (Bk b2 (Za.c Za.zero) 107) (fun _=>{}) (Zc 5 [] [(5,.b false),(6,.i r1)] {} (Zb rfl (TC.ret (Zq (TE.ret [0] (.tuple #[Za.v (⟨⟨0,0,0,⟨0,0⟩,⟨0,0⟩,0,0,0,0,0,0⟩,0,⟨0,⟨0,0⟩,0,0,0⟩⟩:Za),.b false,.i r1]) {} (by unfold Xv;refine eS (a:=((⟨⟨0,0,0,⟨0,0⟩,⟨0,0⟩,0,0,0,0,0,0⟩,0,⟨0,⟨0,0⟩,0,0,0⟩⟩:Za),false,r1)) (fun (z:Za×Bool×Int)=>(.tuple #[Za.v z.1,.b z.2.1,.i z.2.2]:Value)) ?_;subst hr1;exact Zk h1 (rfl)))))))))
 ·refine Yg (TC.seq (Ze (Zc 3 [] [(16,.b (decide (z7<0)))] {} (XT 16 (decide (z7<0)) 6 [] [] (fun β=>[(19,.b (β||(decide (z7>100))))]) Kr {} {} (Zb rfl (TC.cond ((decide (z7<0))||(decide (z7>100))) rfl Kr (fun h2=>?_) (fun h2=>?_)))))))
  ·exact Ze (Zc 1 [] [(20,Za.v Za.zero)] {} (Ym 0 (Bk b2 (Za.c Za.zero) 107) (fun _=>{}) (Zc 4 [] [(5,.b false),(6,.i 4)] {} (Zb rfl (TC.ret (Zq (TE.ret [0] (.tuple #[Za.v (⟨⟨0,0,0,⟨0,0⟩,⟨0,0⟩,0,0,0,0,0,0⟩,0,⟨0,⟨0,0⟩,0,0,0⟩⟩:Za),.b false,.i 4]) {} (by unfold Xv;refine eS (a:=((⟨⟨0,0,0,⟨0,0⟩,⟨0,0⟩,0,0,0,0,0,0⟩,0,⟨0,⟨0,0⟩,0,0,0⟩⟩:Za),false,4)) (fun (z:Za×Bool×Int)=>(.tuple #[Za.v z.1,.b z.2.1,.i z.2.2]:Value)) ?_;subst hr1;exact Zd h1 (Zk h2 (rfl))))))))))
  ·refine Yg (TC.seq (Ze (Zc 4 [1] [(24,.b (decide (f.Track.Misses<101)))] {} (Zb rfl (TC.cond (decide (f.Track.Misses<101)) rfl Kr (fun h3=>?_) (fun h3=>?_))))))
   ·refine TC.region (Zc 6 [1] [(28,.i (w64 (f.Track.Misses+1))),(30,.pt b1 12)] {} (Ym 1 (Bk b1 (Za.c (⟨⟨f.Track.ID,f.Track.State,f.Track.Time,f.Track.At,f.Track.Speed,f.Track.Height,f.Track.Rate,f.Track.Radius,f.Track.Code,f.Track.Hits,w64 (f.Track.Misses+1)⟩,f.Slack,f.Last⟩:Za)) 107) (fun _=>{}) (Zz (Ze (Zc 4 [1] [(36,.b (f.Track.State==1))] {} (Zb rfl (TC.cond (f.Track.State==1) rfl Kr (fun h4=>?_) (fun h4=>?_))))))))
    ·exact TC.region (Zc 2 [] [(38,.pt b1 1)] {} (Ym 1 (Bk b1 (Za.c (⟨⟨f.Track.ID,2,f.Track.Time,f.Track.At,f.Track.Speed,f.Track.Height,f.Track.Rate,f.Track.Radius,f.Track.Code,f.Track.Hits,w64 (f.Track.Misses+1)⟩,f.Slack,f.Last⟩:Za)) 107) (fun _=>{}) (Zz (Hu 6 [Bk b1 (Za.c (⟨⟨f.Track.ID,2,f.Track.Time,f.Track.At,f.Track.Speed,f.Track.Height,f.Track.Rate,f.Track.Radius,f.Track.Code,f.Track.Hits,w64 (f.Track.Misses+1)⟩,f.Slack,f.Last⟩:Za)) 107] [Bk b2 (Za.c (⟨⟨f.Track.ID,2,f.Track.Time,f.Track.At,f.Track.Speed,f.Track.Height,f.Track.Rate,f.Track.Radius,f.Track.Code,f.Track.Hits,w64 (f.Track.Misses+1)⟩,f.Slack,f.Last⟩:Za)) 107,Bk b1 (Za.c (⟨⟨f.Track.ID,2,f.Track.Time,f.Track.At,f.Track.Speed,f.Track.Height,f.Track.Rate,f.Track.Radius,f.Track.Code,f.Track.Hits,w64 (f.Track.Misses+1)⟩,f.Slack,f.Last⟩:Za)) 107] (sb 2) (sb 2) Kr Kr (TG.run 6 [0,0] [(4,.p0 b2),(39,Za.v (⟨⟨f.Track.ID,2,f.Track.Time,f.Track.At,f.Track.Speed,f.Track.Height,f.Track.Rate,f.Track.Radius,f.Track.Code,f.Track.Hits,w64 (f.Track.Misses+1)⟩,f.Slack,f.Last⟩:Za)),(44,.b (decide ((w64 (f.Track.Misses+1))>z7)))] rfl rfl rfl {} (TG.store 0 rfl (fun _=>{}) (TG.run 9 [] [(4,.p0 b2),(5,.b (decide ((w64 (f.Track.Misses+1))>z7))),(6,.i 0)] rfl rfl rfl {} (B9 rfl rfl (TC.ret (TE.ret [0] (.tuple #[Za.v (⟨⟨f.Track.ID,2,f.Track.Time,f.Track.At,f.Track.Speed,f.Track.Height,f.Track.Rate,f.Track.Radius,f.Track.Code,f.Track.Hits,w64 (f.Track.Misses+1)⟩,f.Slack,f.Last⟩:Za),.b (decide ((w64 (f.Track.Misses+1))>z7)),.i 0]) {} (by unfold Xv;refine eS (a:=((⟨⟨f.Track.ID,2,f.Track.Time,f.Track.At,f.Track.Speed,f.Track.Height,f.Track.Rate,f.Track.Radius,f.Track.Code,f.Track.Hits,w64 (f.Track.Misses+1)⟩,f.Slack,f.Last⟩:Za),decide ((w64 (f.Track.Misses+1))>z7),0)) (fun (z:Za×Bool×Int)=>(.tuple #[Za.v z.1,.b z.2.1,.i z.2.2]:Value)) ?_;subst hr1;exact Zd h1 (Zd h2 (Zk h3 (Zk h4 (rfl)))))))))))))))
    ·exact Yg (TC.seq (Hu 6 [Bk b1 (Za.c (⟨⟨f.Track.ID,f.Track.State,f.Track.Time,f.Track.At,f.Track.Speed,f.Track.Height,f.Track.Rate,f.Track.Radius,f.Track.Code,f.Track.Hits,w64 (f.Track.Misses+1)⟩,f.Slack,f.Last⟩:Za)) 107] [Bk b2 (Za.c (⟨⟨f.Track.ID,f.Track.State,f.Track.Time,f.Track.At,f.Track.Speed,f.Track.Height,f.Track.Rate,f.Track.Radius,f.Track.Code,f.Track.Hits,w64 (f.Track.Misses+1)⟩,f.Slack,f.Last⟩:Za)) 107,Bk b1 (Za.c (⟨⟨f.Track.ID,f.Track.State,f.Track.Time,f.Track.At,f.Track.Speed,f.Track.Height,f.Track.Rate,f.Track.Radius,f.Track.Code,f.Track.Hits,w64 (f.Track.Misses+1)⟩,f.Slack,f.Last⟩:Za)) 107] (sb 2) (sb 2) Kr Kr (TG.run 6 [0,0] [(4,.p0 b2),(39,Za.v (⟨⟨f.Track.ID,f.Track.State,f.Track.Time,f.Track.At,f.Track.Speed,f.Track.Height,f.Track.Rate,f.Track.Radius,f.Track.Code,f.Track.Hits,w64 (f.Track.Misses+1)⟩,f.Slack,f.Last⟩:Za)),(44,.b (decide ((w64 (f.Track.Misses+1))>z7)))] rfl rfl rfl {} (TG.store 0 rfl (fun _=>{}) (TG.run 9 [] [(4,.p0 b2),(5,.b (decide ((w64 (f.Track.Misses+1))>z7))),(6,.i 0)] rfl rfl rfl {} (B9 rfl rfl (TC.ret (TE.ret [0] (.tuple #[Za.v (⟨⟨f.Track.ID,f.Track.State,f.Track.Time,f.Track.At,f.Track.Speed,f.Track.Height,f.Track.Rate,f.Track.Radius,f.Track.Code,f.Track.Hits,w64 (f.Track.Misses+1)⟩,f.Slack,f.Last⟩:Za),.b (decide ((w64 (f.Track.Misses+1))>z7)),.i 0]) {} (by unfold Xv;refine eS (a:=((⟨⟨f.Track.ID,f.Track.State,f.Track.Time,f.Track.At,f.Track.Speed,f.Track.Height,f.Track.Rate,f.Track.Radius,f.Track.Code,f.Track.Hits,w64 (f.Track.Misses+1)⟩,f.Slack,f.Last⟩:Za),decide ((w64 (f.Track.Misses+1))>z7),0)) (fun (z:Za×Bool×Int)=>(.tuple #[Za.v z.1,.b z.2.1,.i z.2.2]:Value)) ?_;subst hr1;exact Zd h1 (Zd h2 (Zk h3 (Zd h4 (rfl)))))))))))))
   ·refine TC.region (Zc 2 [] [(32,.pt b1 12)] {} (Ym 1 (Bk b1 (Za.c (⟨⟨f.Track.ID,f.Track.State,f.Track.Time,f.Track.At,f.Track.Speed,f.Track.Height,f.Track.Rate,f.Track.Radius,f.Track.Code,f.Track.Hits,101⟩,f.Slack,f.Last⟩:Za)) 107) (fun _=>{}) (Zz (Ze (Zc 4 [1] [(36,.b (f.Track.State==1))] {} (Zb rfl (TC.cond (f.Track.State==1) rfl Kr (fun h5=>?_) (fun h5=>?_))))))))
    ·exact TC.region (Zc 2 [] [(38,.pt b1 1)] {} (Ym 1 (Bk b1 (Za.c (⟨⟨f.Track.ID,2,f.Track.Time,f.Track.At,f.Track.Speed,f.Track.Height,f.Track.Rate,f.Track.Radius,f.Track.Code,f.Track.Hits,101⟩,f.Slack,f.Last⟩:Za)) 107) (fun _=>{}) (Zz (Hu 6 [Bk b1 (Za.c (⟨⟨f.Track.ID,2,f.Track.Time,f.Track.At,f.Track.Speed,f.Track.Height,f.Track.Rate,f.Track.Radius,f.Track.Code,f.Track.Hits,101⟩,f.Slack,f.Last⟩:Za)) 107] [Bk b2 (Za.c (⟨⟨f.Track.ID,2,f.Track.Time,f.Track.At,f.Track.Speed,f.Track.Height,f.Track.Rate,f.Track.Radius,f.Track.Code,f.Track.Hits,101⟩,f.Slack,f.Last⟩:Za)) 107,Bk b1 (Za.c (⟨⟨f.Track.ID,2,f.Track.Time,f.Track.At,f.Track.Speed,f.Track.Height,f.Track.Rate,f.Track.Radius,f.Track.Code,f.Track.Hits,101⟩,f.Slack,f.Last⟩:Za)) 107] (sb 2) (sb 2) Kr Kr (TG.run 6 [0,0] [(4,.p0 b2),(39,Za.v (⟨⟨f.Track.ID,2,f.Track.Time,f.Track.At,f.Track.Speed,f.Track.Height,f.Track.Rate,f.Track.Radius,f.Track.Code,f.Track.Hits,101⟩,f.Slack,f.Last⟩:Za)),(44,.b (decide (101>z7)))] rfl rfl rfl {} (TG.store 0 rfl (fun _=>{}) (TG.run 9 [] [(4,.p0 b2),(5,.b (decide (101>z7))),(6,.i 0)] rfl rfl rfl {} (B9 rfl rfl (TC.ret (TE.ret [0] (.tuple #[Za.v (⟨⟨f.Track.ID,2,f.Track.Time,f.Track.At,f.Track.Speed,f.Track.Height,f.Track.Rate,f.Track.Radius,f.Track.Code,f.Track.Hits,101⟩,f.Slack,f.Last⟩:Za),.b (decide (101>z7)),.i 0]) {} (by unfold Xv;refine eS (a:=((⟨⟨f.Track.ID,2,f.Track.Time,f.Track.At,f.Track.Speed,f.Track.Height,f.Track.Rate,f.Track.Radius,f.Track.Code,f.Track.Hits,101⟩,f.Slack,f.Last⟩:Za),decide (101>z7),0)) (fun (z:Za×Bool×Int)=>(.tuple #[Za.v z.1,.b z.2.1,.i z.2.2]:Value)) ?_;subst hr1;exact Zd h1 (Zd h2 (Zd h3 (Zk h5 (rfl)))))))))))))))
    ·exact Yg (TC.seq (Hu 6 [Bk b1 (Za.c (⟨⟨f.Track.ID,f.Track.State,f.Track.Time,f.Track.At,f.Track.Speed,f.Track.Height,f.Track.Rate,f.Track.Radius,f.Track.Code,f.Track.Hits,101⟩,f.Slack,f.Last⟩:Za)) 107] [Bk b2 (Za.c (⟨⟨f.Track.ID,f.Track.State,f.Track.Time,f.Track.At,f.Track.Speed,f.Track.Height,f.Track.Rate,f.Track.Radius,f.Track.Code,f.Track.Hits,101⟩,f.Slack,f.Last⟩:Za)) 107,Bk b1 (Za.c (⟨⟨f.Track.ID,f.Track.State,f.Track.Time,f.Track.At,f.Track.Speed,f.Track.Height,f.Track.Rate,f.Track.Radius,f.Track.Code,f.Track.Hits,101⟩,f.Slack,f.Last⟩:Za)) 107] (sb 2) (sb 2) Kr Kr (TG.run 6 [0,0] [(4,.p0 b2),(39,Za.v (⟨⟨f.Track.ID,f.Track.State,f.Track.Time,f.Track.At,f.Track.Speed,f.Track.Height,f.Track.Rate,f.Track.Radius,f.Track.Code,f.Track.Hits,101⟩,f.Slack,f.Last⟩:Za)),(44,.b (decide (101>z7)))] rfl rfl rfl {} (TG.store 0 rfl (fun _=>{}) (TG.run 9 [] [(4,.p0 b2),(5,.b (decide (101>z7))),(6,.i 0)] rfl rfl rfl {} (B9 rfl rfl (TC.ret (TE.ret [0] (.tuple #[Za.v (⟨⟨f.Track.ID,f.Track.State,f.Track.Time,f.Track.At,f.Track.Speed,f.Track.Height,f.Track.Rate,f.Track.Radius,f.Track.Code,f.Track.Hits,101⟩,f.Slack,f.Last⟩:Za),.b (decide (101>z7)),.i 0]) {} (by unfold Xv;refine eS (a:=((⟨⟨f.Track.ID,f.Track.State,f.Track.Time,f.Track.At,f.Track.Speed,f.Track.Height,f.Track.Rate,f.Track.Radius,f.Track.Code,f.Track.Hits,101⟩,f.Slack,f.Last⟩:Za),decide (101>z7),0)) (fun (z:Za×Bool×Int)=>(.tuple #[Za.v z.1,.b z.2.1,.i z.2.2]:Value)) ?_;subst hr1;exact Zd h1 (Zd h2 (Zd h3 (Zd h5 (rfl)))))))))))))
def JG (f:Za):Za×Int :=
 let r1:=ZL f
 cond (r1 != 0) (
  ((⟨⟨0,0,0,⟨0,0⟩,⟨0,0⟩,0,0,0,0,0,0⟩,0,⟨0,⟨0,0⟩,0,0,0⟩⟩:Za),r1)) (
  cond (f.Track.State==2) (
   ((⟨⟨f.Track.ID,1,f.Track.Time,f.Track.At,f.Track.Speed,f.Track.Height,f.Track.Rate,f.Track.Radius,f.Track.Code,f.Track.Hits,0⟩,f.Slack,f.Last⟩:Za),0)) (
   ((⟨⟨f.Track.ID,f.Track.State,f.Track.Time,f.Track.At,f.Track.Speed,f.Track.Height,f.Track.Rate,f.Track.Radius,f.Track.Code,f.Track.Hits,0⟩,f.Slack,f.Last⟩:Za),0)))
theorem Lo (f:Za) (w:World):Calls Tryz.prog 49 #[Za.v f] w (Ret w (.tuple #[Za.v ((JG f).1),.int .i64 ((JG f).2)])):=by
 refine Zo (vs:=[Za.v f]) (w:=w) Tryz.func49 rfl Tryz.ntmps49 rfl (Ze (ZH 1 (fun b1=>.p0 b1) (fun b1=>Bk b1 (Za.c f) 107) (fun b1=>{}) (fun b1=>ZH 2 (fun b2=>.p0 b2) (fun b2=>Bk b2 (Za.c Za.zero) 107) (fun b2=>{}) (fun b2=>Zc 3 [] [(3,.i 0)] {} (Zz (Ze (Zc 1 [1] [(5,Za.v f)] {} (TL.c 6 (ZL f) (fun r1=>.i r1) (fun w _=>QK f w) {} (fun r1 hr1=>Zc 3 [] [(4,.i r1)] {} (Zv (Zc 2 [] [(8,.b (r1 != 0))] {} (Zb rfl (TC.cond (r1 != 0) rfl Kr (fun h1=>?_) (fun h1=>?_))))))))))))))
 ·exact Ze (Zc 2 [] [(9,Za.v Za.zero),(10,.i r1)] {} (Ym 0 (Bk b2 (Za.c Za.zero) 107) (fun _=>{}) (Zc 4 [] [(3,.i r1)] {} (Zb rfl (TC.ret (Zq (TE.ret [0] (.tuple #[Za.v (⟨⟨0,0,0,⟨0,0⟩,⟨0,0⟩,0,0,0,0,0,0⟩,0,⟨0,⟨0,0⟩,0,0,0⟩⟩:Za),.i r1]) {} (by unfold JG;refine eS (a:=((⟨⟨0,0,0,⟨0,0⟩,⟨0,0⟩,0,0,0,0,0,0⟩,0,⟨0,⟨0,0⟩,0,0,0⟩⟩:Za),r1)) (fun (z:Za×Int)=>(.tuple #[Za.v z.1,.i z.2]:Value)) ?_;subst hr1;exact Zk h1 (rfl)))))))))
 ·refine ZI (Zc 2 [] [(12,.pt b1 12)] {} (Ym 1 (Bk b1 (Za.c (⟨⟨f.Track.ID,f.Track.State,f.Track.Time,f.Track.At,f.Track.Speed,f.Track.Height,f.Track.Rate,f.Track.Radius,f.Track.Code,f.Track.Hits,0⟩,f.Slack,f.Last⟩:Za)) 107) (fun _=>{}) (Zz (Ze (Zc 4 [1] [(16,.b (f.Track.State==2))] {} (Zb rfl (TC.cond (f.Track.State==2) rfl Kr (fun h2=>?_) (fun h2=>?_))))))))
  ·exact TC.region (Zc 2 [] [(18,.pt b1 1)] {} (Ym 1 (Bk b1 (Za.c (⟨⟨f.Track.ID,1,f.Track.Time,f.Track.At,f.Track.Speed,f.Track.Height,f.Track.Rate,f.Track.Radius,f.Track.Code,f.Track.Hits,0⟩,f.Slack,f.Last⟩:Za)) 107) (fun _=>{}) (Zv (Zc 1 [1] [(19,Za.v (⟨⟨f.Track.ID,1,f.Track.Time,f.Track.At,f.Track.Speed,f.Track.Height,f.Track.Rate,f.Track.Radius,f.Track.Code,f.Track.Hits,0⟩,f.Slack,f.Last⟩:Za))] {} (Ym 0 (Bk b2 (Za.c (⟨⟨f.Track.ID,1,f.Track.Time,f.Track.At,f.Track.Speed,f.Track.Height,f.Track.Rate,f.Track.Radius,f.Track.Code,f.Track.Hits,0⟩,f.Slack,f.Last⟩:Za)) 107) (fun _=>{}) (Zc 3 [] [(3,.i 0)] {} (Zb rfl (TC.ret (TE.ret [0] (.tuple #[Za.v (⟨⟨f.Track.ID,1,f.Track.Time,f.Track.At,f.Track.Speed,f.Track.Height,f.Track.Rate,f.Track.Radius,f.Track.Code,f.Track.Hits,0⟩,f.Slack,f.Last⟩:Za),.i 0]) {} (by unfold JG;refine eS (a:=((⟨⟨f.Track.ID,1,f.Track.Time,f.Track.At,f.Track.Speed,f.Track.Height,f.Track.Rate,f.Track.Radius,f.Track.Code,f.Track.Hits,0⟩,f.Slack,f.Last⟩:Za),0)) (fun (z:Za×Int)=>(.tuple #[Za.v z.1,.i z.2]:Value)) ?_;subst hr1;exact Zd h1 (Zk h2 (rfl))))))))))))
  ·exact ZI (Zc 1 [1] [(19,Za.v (⟨⟨f.Track.ID,f.Track.State,f.Track.Time,f.Track.At,f.Track.Speed,f.Track.Height,f.Track.Rate,f.Track.Radius,f.Track.Code,f.Track.Hits,0⟩,f.Slack,f.Last⟩:Za))] {} (Ym 0 (Bk b2 (Za.c (⟨⟨f.Track.ID,f.Track.State,f.Track.Time,f.Track.At,f.Track.Speed,f.Track.Height,f.Track.Rate,f.Track.Radius,f.Track.Code,f.Track.Hits,0⟩,f.Slack,f.Last⟩:Za)) 107) (fun _=>{}) (Zc 3 [] [(3,.i 0)] {} (Zb rfl (TC.ret (TE.ret [0] (.tuple #[Za.v (⟨⟨f.Track.ID,f.Track.State,f.Track.Time,f.Track.At,f.Track.Speed,f.Track.Height,f.Track.Rate,f.Track.Radius,f.Track.Code,f.Track.Hits,0⟩,f.Slack,f.Last⟩:Za),.i 0]) {} (by unfold JG;refine eS (a:=((⟨⟨f.Track.ID,f.Track.State,f.Track.Time,f.Track.At,f.Track.Speed,f.Track.Height,f.Track.Rate,f.Track.Radius,f.Track.Code,f.Track.Hits,0⟩,f.Slack,f.Last⟩:Za),0)) (fun (z:Za×Int)=>(.tuple #[Za.v z.1,.i z.2]:Value)) ?_;subst hr1;exact Zd h1 (Zd h2 (rfl)))))))))
def Js (x:Int):Int :=
 let r1:=Z0 ((Z6 .u64 ((Z0 ((Z6 .u64 (x.fdiv (2 ^ 1)) 6148914691236517205)+(Z6 .u64 x 6148914691236517205))).fdiv (2 ^ 2)) 3689348814741910323)+(Z6 .u64 (Z0 ((Z6 .u64 (x.fdiv (2 ^ 1)) 6148914691236517205)+(Z6 .u64 x 6148914691236517205))) 3689348814741910323))
 let r2:=Z0 ((Z0 ((Z6 .u64 (Z0 ((r1.fdiv (2 ^ 4))+r1)) 1085102592571150095)+((Z6 .u64 (Z0 ((r1.fdiv (2 ^ 4))+r1)) 1085102592571150095).fdiv (2 ^ 8))))+((Z0 ((Z6 .u64 (Z0 ((r1.fdiv (2 ^ 4))+r1)) 1085102592571150095)+((Z6 .u64 (Z0 ((r1.fdiv (2 ^ 4))+r1)) 1085102592571150095).fdiv (2 ^ 8)))).fdiv (2 ^ 16)))
 Z6 .i64 (w64 (Z0 (r2+(r2.fdiv (2 ^ 32))))) 127
theorem UN (x:Int) (w:World):Calls Tryz.prog 163 #[.int .u64 x] w (Ret w (.int .i64 (Js x))):=by
 refine Zo (vs:=[.int .u64 x]) (w:=w) Tryz.func163 rfl Tryz.ntmps163 rfl (Ze (Zc 1 [] [(2,.i 0)] {} (Zv (Zc 7 [] [(0,.int .u64 (Z0 ((Z6 .u64 (x.fdiv (2 ^ 1)) 6148914691236517205)+(Z6 .u64 x 6148914691236517205))))] {} (Zv (Zc 7 [] [(0,.int .u64 (Z0 ((Z6 .u64 ((Z0 ((Z6 .u64 (x.fdiv (2 ^ 1)) 6148914691236517205)+(Z6 .u64 x 6148914691236517205))).fdiv (2 ^ 2)) 3689348814741910323)+(Z6 .u64 (Z0 ((Z6 .u64 (x.fdiv (2 ^ 1)) 6148914691236517205)+(Z6 .u64 x 6148914691236517205))) 3689348814741910323))))] {} ?_))))))
 generalize hr1:Z0 ((Z6 .u64 ((Z0 ((Z6 .u64 (x.fdiv (2 ^ 1)) 6148914691236517205)+(Z6 .u64 x 6148914691236517205))).fdiv (2 ^ 2)) 3689348814741910323)+(Z6 .u64 (Z0 ((Z6 .u64 (x.fdiv (2 ^ 1)) 6148914691236517205)+(Z6 .u64 x 6148914691236517205))) 3689348814741910323))=r1
 refine Zv (Zc 6 [] [(0,.int .u64 (Z6 .u64 (Z0 ((r1.fdiv (2 ^ 4))+r1)) 1085102592571150095))] {} (Zv (Zc 5 [] [(0,.int .u64 (Z0 ((Z6 .u64 (Z0 ((r1.fdiv (2 ^ 4))+r1)) 1085102592571150095)+((Z6 .u64 (Z0 ((r1.fdiv (2 ^ 4))+r1)) 1085102592571150095).fdiv (2 ^ 8)))))] {} (Zv (Zc 5 [] [(0,.int .u64 (Z0 ((Z0 ((Z6 .u64 (Z0 ((r1.fdiv (2 ^ 4))+r1)) 1085102592571150095)+((Z6 .u64 (Z0 ((r1.fdiv (2 ^ 4))+r1)) 1085102592571150095).fdiv (2 ^ 8))))+((Z0 ((Z6 .u64 (Z0 ((r1.fdiv (2 ^ 4))+r1)) 1085102592571150095)+((Z6 .u64 (Z0 ((r1.fdiv (2 ^ 4))+r1)) 1085102592571150095).fdiv (2 ^ 8)))).fdiv (2 ^ 16)))))] {} ?_)))))
 generalize hr2:Z0 ((Z0 ((Z6 .u64 (Z0 ((r1.fdiv (2 ^ 4))+r1)) 1085102592571150095)+((Z6 .u64 (Z0 ((r1.fdiv (2 ^ 4))+r1)) 1085102592571150095).fdiv (2 ^ 8))))+((Z0 ((Z6 .u64 (Z0 ((r1.fdiv (2 ^ 4))+r1)) 1085102592571150095)+((Z6 .u64 (Z0 ((r1.fdiv (2 ^ 4))+r1)) 1085102592571150095).fdiv (2 ^ 8)))).fdiv (2 ^ 16)))=r2
 exact Zv (Zc 5 [] [(0,.int .u64 (Z0 (r2+(r2.fdiv (2 ^ 32)))))] {} (Zv (Zc 4 [] [(2,.i (Z6 .i64 (w64 (Z0 (r2+(r2.fdiv (2 ^ 32))))) 127))] {} (Zb rfl (TC.ret (TE.ret [] (.i (Z6 .i64 (w64 (Z0 (r2+(r2.fdiv (2 ^ 32))))) 127)) {} (by unfold Js;refine eS (fun z=>(.i z:Value)) ?_;subst hr1 hr2;exact rfl)))))))
def JB (x:Int):Int :=
 let r1:=Js x
 r1
theorem Gx (x:Int) (w:World):Calls Tryz.prog 157 #[.int .u64 x] w (Ret w (.int .i64 (JB x))):=by
 exact Zo (vs:=[.int .u64 x]) (w:=w) Tryz.func157 rfl Tryz.ntmps157 rfl (Ze (Zc 1 [] [(2,.i 0)] {} (Zz (Jr rfl Kr (ZI (Zc 1 [] [(6,.int .u64 x)] {} (TL.c 7 (Js x) (fun r1=>.i r1) (fun w _=>UN x w) {} (fun r1 hr1=>Zc 3 [] [(2,.i r1)] {} (Zb rfl (TC.ret (TE.ret [] (.i r1) {} (by unfold JB;refine eS (fun z=>(.i z:Value)) ?_;subst hr1;exact rfl))))))))))))
def Qj (need:Int) (of_:Int):Int :=
 cond ((((decide (of_<1))||(decide (of_>16)))||(decide (need<1)))||(decide (need>of_))) (
  4) (
  0)
theorem U5 (need:Int) (of_:Int) (w:World):Calls Tryz.prog 79 #[.int .i64 need,.int .i64 of_] w (Ret w (.int .i64 (Qj need of_))):=by
 refine Zo (vs:=[.i need,.i of_]) (w:=w) Tryz.func79 rfl Tryz.ntmps79 rfl (Ze (Zc 1 [] [(4,.i 0)] {} (Zz (Ze (Zc 3 [] [(7,.b (decide (of_<1)))] {} (XT 7 (decide (of_<1)) 6 [] [] (fun β=>[(10,.b (β||(decide (of_>16))))]) Kr {} {} (Zc 7 [] [(11,.b ((decide (of_<1))||(decide (of_>16))))] {} (XT 11 ((decide (of_<1))||(decide (of_>16))) 10 [] [] (fun β=>[(14,.b (β||(decide (need<1))))]) Kr {} {} (Zc 11 [] [(15,.b (((decide (of_<1))||(decide (of_>16)))||(decide (need<1))))] {} (XT 15 (((decide (of_<1))||(decide (of_>16)))||(decide (need<1))) 15 [] [] (fun β=>[(19,.b (β||(decide (need>of_))))]) Kr {} {} (Zb rfl (TC.cond ((((decide (of_<1))||(decide (of_>16)))||(decide (need<1)))||(decide (need>of_))) rfl Kr (fun h1=>?_) (fun h1=>?_)))))))))))))
 ·exact Ze (Zc 1 [] [(4,.i 4)] {} (Zb rfl (TC.ret (Zq (TE.ret [] (.i 4) {} (by unfold Qj;refine eS (fun z=>(.i z:Value)) ?_;exact Zk h1 (rfl)))))))
 ·exact ZI (Zc 1 [] [(4,.i 0)] {} (Zb rfl (TC.ret (TE.ret [] (.i 0) {} (by unfold Qj;refine eS (fun z=>(.i z:Value)) ?_;exact Zd h1 (rfl))))))
def K0 (b_:Zg):Int :=
 cond ((decide (b_.Scans<0))||(decide (b_.Scans>16))) (
  4) (
  cond (decide (b_.Hits<0)) (
   3) (
   cond (decide (b_.Hits≥(w64 (1*2 ^ (min b_.Scans.toNat 64))))) (
    3) (
    0)))
theorem DX (b_:Zg) (w:World):Calls Tryz.prog 126 #[Zg.v b_] w (Ret w (.int .i64 (K0 b_))):=by
 refine Zo (vs:=[Zg.v b_]) (w:=w) Tryz.func126 rfl Tryz.ntmps126 rfl (Ze (ZH 1 (fun b1=>.p0 b1) (fun b1=>Bk b1 (Zg.c b_) 109) (fun b1=>{}) (fun b1=>Zc 2 [] [(2,.i 0)] {} (Zz (TC.block (Ze (Zc 4 [0] [(7,.b (decide (b_.Scans<0)))] {} (XT 7 (decide (b_.Scans<0)) 8 [] [0] (fun β=>[(11,.b (β||(decide (b_.Scans>16))))]) Kr {} {} (Zc 9 [] [(3,.b ((decide (b_.Scans<0))||(decide (b_.Scans>16))))] {} (Zb rfl (TC.cond ((decide (b_.Scans<0))||(decide (b_.Scans>16))) rfl Kr (fun h1=>?_) (fun h1=>?_))))))))))))
 ·refine Ze (Zc 1 [] [(2,.i 4)] {} (Zb rfl (TC.ret (ZY (Zq ?_)))))
  exact TE.ret [] (.i 4) {} (by unfold K0;refine eS (fun z=>(.i z:Value)) ?_;exact Zk h1 (rfl))
 ·have j4:=(Zt (Zx h1))
  have dj:=(Zt (Z9 h1))
  refine TC.seq (UA 12 Kr Kr Kr (JA 4 [0] [(16,.b (decide (b_.Hits<0)))] {} (DL 16 (decide (b_.Hits<0)) Kr (fun h2=>?_) (fun h2=>?_))))
  ·refine JA 12 [] [(12,.b true)] {} (VT rfl (Xo rfl Kr (Ze (Zc 1 [] [(2,.i 3)] {} (Zb rfl (TC.ret (ZY (Zq ?_))))))))
   exact TE.ret [] (.i 3) {} (by unfold K0;refine eS (fun z=>(.i z:Value)) ?_;exact Zd h1 (Zk h2 (rfl)))
  ·have vr:=(Zt h2)
   refine JA 8 [0,0] [(18,.i b_.Hits),(20,.i b_.Scans)] {} (TQ.v (sV (binOp .shl 3 (.i 1) (.i b_.Scans))) 21 (.i (w64 (1*2 ^ (min b_.Scans.toNat 64)))) (fun w hM=>GM sd) rfl {} (JA 12 [] [(12,.b (decide (b_.Hits≥(w64 (1*2 ^ (min b_.Scans.toNat 64))))))] {} (VT rfl (TC.cond (decide (b_.Hits≥(w64 (1*2 ^ (min b_.Scans.toNat 64))))) rfl Kr (fun h3=>?_) (fun h3=>?_)))))
   ·refine Ze (Zc 1 [] [(2,.i 3)] {} (Zb rfl (TC.ret (ZY (Zq ?_)))))
    exact TE.ret [] (.i 3) {} (by unfold K0;refine eS (fun z=>(.i z:Value)) ?_;exact Zd h1 (Zd h2 (Zk h3 (rfl))))
   ·exact TC.skip (Yr (YZ (Zc 1 [] [(2,.i 0)] {} (Zb rfl (TC.ret (TE.ret [] (.i 0) {} (by unfold K0;refine eS (fun z=>(.i z:Value)) ?_;exact Zd h1 (Zd h2 (Zd h3 (rfl))))))))))
def J6 (b_:Zg) (last:Int):Int :=
 let r1:=JB (Z0 (Z6 .i64 b_.Hits (w64 ((w64 (1*2 ^ (min last.toNat 64)))-1))))
 r1
theorem VN (b_:Zg) (last:Int) (w:World) (h0:0≤last):Calls Tryz.prog 149 #[Zg.v b_,.int .i64 last] w (Ret w (.int .i64 (J6 b_ last))):=by
 exact Zo (vs:=[Zg.v b_,.i last]) (w:=w) Tryz.func149 rfl Tryz.ntmps149 rfl (Ze (ZH 2 (fun b1=>.p0 b1) (fun b1=>Bk b1 (Zg.c b_) 109) (fun b1=>{}) (fun b1=>Zc 2 [] [(4,.i 0)] {} (Zz (UA 9 Kr Kr Kr (JA 3 [0] [(6,.i b_.Hits),(7,.i last)] {} (TQ.v (sV (binOp .shl 3 (.i 1) (.i last))) 8 (.i (w64 (1*2 ^ (min last.toNat 64)))) (fun w hM=>GM h0) rfl {} (JA 7 [] [(11,.int .u64 (Z0 (Z6 .i64 b_.Hits (w64 ((w64 (1*2 ^ (min last.toNat 64)))-1)))))] {} (TQ.c 12 (JB (Z0 (Z6 .i64 b_.Hits (w64 ((w64 (1*2 ^ (min last.toNat 64)))-1))))) (fun r1=>.i r1) (fun w _=>Gx (Z0 (Z6 .i64 b_.Hits (w64 ((w64 (1*2 ^ (min last.toNat 64)))-1)))) w) rfl {} (fun r1 hr1=>JA 9 [] [(4,.i r1)] {} (VT rfl (TC.ret (TE.ret [] (.i r1) {} (by unfold J6;refine eS (fun z=>(.i z:Value)) ?_;subst hr1;exact rfl))))))))))))))
def V5 (b_:Zg) (need:Int) (of_:Int):Nat→Nat→((Unit) ⊕ (Zg×Int))
 | 0,_=>.inl ()
 | m+1,k=>let r2:=J6 (⟨kor .i64 (Z6 .i64 (w64 (b_.Hits*2 ^ 1)) 65535) 1,ZC 16 (w64 (b_.Scans+1))⟩:Zg) (w64 (of_-(1+(k:Int))))
  cond ((decide (r2>0))&&(decide ((w64 (r2+(1+(k:Int))))≥need))) (
   .inr ((⟨kor .i64 (Z6 .i64 (w64 (b_.Hits*2 ^ 1)) 65535) 1,ZC 16 (w64 (b_.Scans+1))⟩:Zg),0)) (
   V5 b_ need of_ m (k+1))
def V6 (b_:Zg) (need:Int) (of_:Int):Nat→Nat→((Unit) ⊕ (Zg×Int))
 | 0,_=>.inl ()
 | m+1,k_2=>let r4:=J6 (⟨Z6 .i64 (w64 (b_.Hits*2 ^ 1)) 65535,ZC 16 (w64 (b_.Scans+1))⟩:Zg) (w64 (of_-(1+(k_2:Int))))
  cond ((decide (r4>0))&&(decide ((w64 (r4+(1+(k_2:Int))))≥need))) (
   .inr ((⟨Z6 .i64 (w64 (b_.Hits*2 ^ 1)) 65535,ZC 16 (w64 (b_.Scans+1))⟩:Zg),0)) (
   V6 b_ need of_ m (k_2+1))
def QX (b_:Zg) (hit:Bool) (need:Int) (of_:Int):Zg×Int :=
 cond hit (
  let r1:=J6 (⟨kor .i64 (Z6 .i64 (w64 (b_.Hits*2 ^ 1)) 65535) 1,ZC 16 (w64 (b_.Scans+1))⟩:Zg) of_
  cond (decide (r1≥need)) (
   ((⟨kor .i64 (Z6 .i64 (w64 (b_.Hits*2 ^ 1)) 65535) 1,ZC 16 (w64 (b_.Scans+1))⟩:Zg),1)) (
   cond (decide ((ZC 16 (w64 (b_.Scans+1)))<of_)) (
    ((⟨kor .i64 (Z6 .i64 (w64 (b_.Hits*2 ^ 1)) 65535) 1,ZC 16 (w64 (b_.Scans+1))⟩:Zg),0)) (
    Sum.elim (fun _ =>
     ((⟨kor .i64 (Z6 .i64 (w64 (b_.Hits*2 ^ 1)) 65535) 1,ZC 16 (w64 (b_.Scans+1))⟩:Zg),2)) (fun r=>r) (V5 b_ need of_ ((of_-1).toNat) 0)))) (
  let r3:=J6 (⟨Z6 .i64 (w64 (b_.Hits*2 ^ 1)) 65535,ZC 16 (w64 (b_.Scans+1))⟩:Zg) of_
  cond (decide (r3≥need)) (
   ((⟨Z6 .i64 (w64 (b_.Hits*2 ^ 1)) 65535,ZC 16 (w64 (b_.Scans+1))⟩:Zg),1)) (
   cond (decide ((ZC 16 (w64 (b_.Scans+1)))<of_)) (
    ((⟨Z6 .i64 (w64 (b_.Hits*2 ^ 1)) 65535,ZC 16 (w64 (b_.Scans+1))⟩:Zg),0)) (
    Sum.elim (fun _ =>
     ((⟨Z6 .i64 (w64 (b_.Hits*2 ^ 1)) 65535,ZC 16 (w64 (b_.Scans+1))⟩:Zg),2)) (fun r=>r) (V6 b_ need of_ ((of_-1).toNat) 0))))
set_option maxHeartbeats 4000000 in
theorem NB (b_:Zg) (hit:Bool) (need:Int) (of_:Int) (w:World) (hof:1≤of_∧of_≤16):Calls Tryz.prog 127 #[Zg.v b_,.bool hit,.int .i64 need,.int .i64 of_] w (Ret w (.tuple #[Zg.v ((QX b_ hit need of_).1),.int .i64 ((QX b_ hit need of_).2)])):=by
 refine Zo (vs:=[Zg.v b_,.b hit,.i need,.i of_]) (w:=w) Tryz.func127 rfl Tryz.ntmps127 rfl (Ze (ZH 4 (fun b1=>.p0 b1) (fun b1=>Bk b1 (Zg.c b_) 109) (fun b1=>{}) (fun b1=>ZH 8 (fun b2=>.p0 b2) (fun b2=>Bk b2 (Zg.c Zg.zero) 109) (fun b2=>{}) (fun b2=>Zc 3 [] [(9,.i 0)] {} (Zv (Zc 5 [1] [(15,.i (Z6 .i64 (w64 (b_.Hits*2 ^ 1)) 65535)),(16,.p0 b1)] {} (Ym 1 (Bk b1 (Zg.c (⟨Z6 .i64 (w64 (b_.Hits*2 ^ 1)) 65535,b_.Scans⟩:Zg)) 109) (fun _=>{}) (Zz (Ze (Zc 1 [] [(17,.b hit)] {} (Zb rfl (TC.cond hit rfl Kr (fun h1=>?_) (fun h1=>?_)))))))))))))
 ·refine TC.region (Zc 4 [1] [(20,.i (kor .i64 (Z6 .i64 (w64 (b_.Hits*2 ^ 1)) 65535) 1)),(21,.p0 b1)] {} (Ym 1 (Bk b1 (Zg.c (⟨kor .i64 (Z6 .i64 (w64 (b_.Hits*2 ^ 1)) 65535) 1,b_.Scans⟩:Zg)) 109) (fun _=>{}) (Zv (Zc 5 [1] [(25,.i (ZC 16 (w64 (b_.Scans+1)))),(26,.pt b1 1)] {} (Ym 1 (Bk b1 (Zg.c (⟨kor .i64 (Z6 .i64 (w64 (b_.Hits*2 ^ 1)) 65535) 1,ZC 16 (w64 (b_.Scans+1))⟩:Zg)) 109) (fun _=>{}) (Zz (Ze (Zc 2 [1] [(27,Zg.v (⟨kor .i64 (Z6 .i64 (w64 (b_.Hits*2 ^ 1)) 65535) 1,ZC 16 (w64 (b_.Scans+1))⟩:Zg)),(28,.i of_)] {} (TL.c 29 (J6 (⟨kor .i64 (Z6 .i64 (w64 (b_.Hits*2 ^ 1)) 65535) 1,ZC 16 (w64 (b_.Scans+1))⟩:Zg) of_) (fun r1=>.i r1) (fun w _=>VN (⟨kor .i64 (Z6 .i64 (w64 (b_.Hits*2 ^ 1)) 65535) 1,ZC 16 (w64 (b_.Scans+1))⟩:Zg) of_ w (by have m0_:=BD 16 (w64 (b_.Scans+1));have m1_:=BE 16 (w64 (b_.Scans+1));have m2_:=GO 16 (w64 (b_.Scans+1));exact sg)) {} (fun r1 hr1=>Zc 5 [] [(31,.b (decide (r1≥need)))] {} (Zb rfl (TC.cond (decide (r1≥need)) rfl Kr (fun h2=>?_) (fun h2=>?_)))))))))))))
  ·exact Ze (Zc 1 [1] [(32,Zg.v (⟨kor .i64 (Z6 .i64 (w64 (b_.Hits*2 ^ 1)) 65535) 1,ZC 16 (w64 (b_.Scans+1))⟩:Zg))] {} (Ym 0 (Bk b2 (Zg.c (⟨kor .i64 (Z6 .i64 (w64 (b_.Hits*2 ^ 1)) 65535) 1,ZC 16 (w64 (b_.Scans+1))⟩:Zg)) 109) (fun _=>{}) (Zc 3 [] [(9,.i 1)] {} (Zb rfl (TC.ret (Zq (TE.ret [0] (.tuple #[Zg.v (⟨kor .i64 (Z6 .i64 (w64 (b_.Hits*2 ^ 1)) 65535) 1,ZC 16 (w64 (b_.Scans+1))⟩:Zg),.i 1]) {} (by unfold QX;refine eS (a:=((⟨kor .i64 (Z6 .i64 (w64 (b_.Hits*2 ^ 1)) 65535) 1,ZC 16 (w64 (b_.Scans+1))⟩:Zg),1)) (fun (z:Zg×Int)=>(.tuple #[Zg.v z.1,.i z.2]:Value)) ?_;subst hr1;exact Zk h1 (Zk h2 (rfl))))))))))
  ·have vr:=(Zt h2)
   refine Yg (TC.seq (Ze (Zc 4 [1] [(36,.b (decide ((ZC 16 (w64 (b_.Scans+1)))<of_)))] {} (Zb rfl (TC.cond (decide ((ZC 16 (w64 (b_.Scans+1)))<of_)) rfl Kr (fun h3=>?_) (fun h3=>?_))))))
   ·exact Ze (Zc 1 [1] [(37,Zg.v (⟨kor .i64 (Z6 .i64 (w64 (b_.Hits*2 ^ 1)) 65535) 1,ZC 16 (w64 (b_.Scans+1))⟩:Zg))] {} (Ym 0 (Bk b2 (Zg.c (⟨kor .i64 (Z6 .i64 (w64 (b_.Hits*2 ^ 1)) 65535) 1,ZC 16 (w64 (b_.Scans+1))⟩:Zg)) 109) (fun _=>{}) (Zc 3 [] [(9,.i 0)] {} (Zb rfl (TC.ret (Zq (TE.ret [0] (.tuple #[Zg.v (⟨kor .i64 (Z6 .i64 (w64 (b_.Hits*2 ^ 1)) 65535) 1,ZC 16 (w64 (b_.Scans+1))⟩:Zg),.i 0]) {} (by unfold QX;refine eS (a:=((⟨kor .i64 (Z6 .i64 (w64 (b_.Hits*2 ^ 1)) 65535) 1,ZC 16 (w64 (b_.Scans+1))⟩:Zg),0)) (fun (z:Zg×Int)=>(.tuple #[Zg.v z.1,.i z.2]:Value)) ?_;subst hr1;exact Zk h1 (Zd h2 (Zk h3 (rfl)))))))))))
   ·have wm:=(Zt h3)
    refine Yg (TC.seq (Ze (Zc 1 [] [(10,.i 1)] {} (Zb rfl ?_))))
    obtain⟨R1,hR⟩:∃ R,R=V5 b_ need of_ ((of_-1).toNat) 0:=⟨_,rfl⟩
    refine TC.cut (S:=Unit) (fun (_:Unit)=>[(4,.p0 b1),(8,.p0 b2)]) (fun (_:Unit)=>[Bk b2 (Zg.c Zg.zero) 109,Bk b1 (Zg.c (⟨kor .i64 (Z6 .i64 (w64 (b_.Hits*2 ^ 1)) 65535) 1,ZC 16 (w64 (b_.Scans+1))⟩:Zg)) 109]) (fun (_:Unit)=>R1=.inl ()) ?_ ?_
    ·refine TC.block (TC.rw 10 (.i 1) (.i (1+((0:Nat):Int))) Kr (int_eq (by first|omega|(rw[Zu (by omega)];omega)|(simp only[Ya];omega))) (XB (X:=Nat) (fun k=>[(2,.i need),(3,.i of_),(4,.p0 b1),(8,.p0 b2),(10,.i (1+(k:Int)))]) (fun k=>[Bk b2 (Zg.c Zg.zero) 109,Bk b1 (Zg.c (⟨kor .i64 (Z6 .i64 (w64 (b_.Hits*2 ^ 1)) 65535) 1,ZC 16 (w64 (b_.Scans+1))⟩:Zg)) 109]) (fun k=>((of_-1).toNat)-k) (fun k=>k≤((of_-1).toNat)∧R1=V5 b_ need of_ (((of_-1).toNat)-k) k) ?_ 0 ⟨aN _,hR⟩ Kr (sb 3)))
     rintro k ⟨hk,hI⟩
     refine TC.seq (Ze (Zc 3 [] [(40,.b (decide ((1+(k:Int))<of_)))] {} (Zb rfl (TC.cond (decide ((1+(k:Int))<of_)) rfl Kr (fun h4=>?_) (fun h4=>?_)))))
     ·have hlt:k<((of_-1).toNat):=by have p0_:=(Ys h4);first|omega|(simp only[Ya] at *;omega)
      have hd:((of_-1).toNat)-k=(((of_-1).toNat)-(k+1))+1:=by omega
      have yl:=(Ys h4)
      refine Yg (TC.seq (TC.block (Ze (Zc 4 [1] [(43,Zg.v (⟨kor .i64 (Z6 .i64 (w64 (b_.Hits*2 ^ 1)) 65535) 1,ZC 16 (w64 (b_.Scans+1))⟩:Zg)),(46,.i (w64 (of_-(1+(k:Int)))))] {} (TL.c 47 (J6 (⟨kor .i64 (Z6 .i64 (w64 (b_.Hits*2 ^ 1)) 65535) 1,ZC 16 (w64 (b_.Scans+1))⟩:Zg) (w64 (of_-(1+(k:Int))))) (fun r2=>.i r2) (fun w _=>VN (⟨kor .i64 (Z6 .i64 (w64 (b_.Hits*2 ^ 1)) 65535) 1,ZC 16 (w64 (b_.Scans+1))⟩:Zg) (w64 (of_-(1+(k:Int)))) w (by have m0_:=BD 16 (w64 (b_.Scans+1));have m1_:=BE 16 (w64 (b_.Scans+1));have m2_:=GO 16 (w64 (b_.Scans+1));exact sg)) {} (fun r2 hr2=>Zc 6 [] [(11,.i r2)] {} (Zv (Zc 3 [] [(50,.b (decide (r2>0)))] {} (XT 50 (decide (r2>0)) 9 [] [] (fun β=>[(56,.b (β&&(decide ((w64 (r2+(1+(k:Int))))≥need))))]) Kr {} {} (Zb rfl (TC.cond ((decide (r2>0))&&(decide ((w64 (r2+(1+(k:Int))))≥need))) rfl Kr (fun h5=>?_) (fun h5=>?_))))))))))))
      ·refine Ze (Zc 1 [1] [(57,Zg.v (⟨kor .i64 (Z6 .i64 (w64 (b_.Hits*2 ^ 1)) 65535) 1,ZC 16 (w64 (b_.Scans+1))⟩:Zg))] {} (Ym 0 (Bk b2 (Zg.c (⟨kor .i64 (Z6 .i64 (w64 (b_.Hits*2 ^ 1)) 65535) 1,ZC 16 (w64 (b_.Scans+1))⟩:Zg)) 109) (fun _=>{}) (Zc 3 [] [(9,.i 0)] {} (Zb rfl (TC.ret (ZY (Zq (Zq (ZY (Zq (Zq ?_)))))))))))
       exact TE.ret [0] (.tuple #[Zg.v (⟨kor .i64 (Z6 .i64 (w64 (b_.Hits*2 ^ 1)) 65535) 1,ZC 16 (w64 (b_.Scans+1))⟩:Zg),.i 0]) {} (by unfold QX;refine eS (a:=((⟨kor .i64 (Z6 .i64 (w64 (b_.Hits*2 ^ 1)) 65535) 1,ZC 16 (w64 (b_.Scans+1))⟩:Zg),0)) (fun (z:Zg×Int)=>(.tuple #[Zg.v z.1,.i z.2]:Value)) ?_;subst hr1 hr2;exact Zk h1 (Zd h2 (Zd h3 (Q4 (hR.symm.trans (hI.trans (by rw[hd];exact Zk h5 (rfl)))) rfl))))
      ·have yr:=((Qq h5).imp (fun h=>(Zt h)) (fun h=>(Zt h)))
       exact TC.skip (Yr (Z4 (TC.region (Zc 3 [] [(10,.i (w64 ((1+(k:Int))+1)))] {} (Z2 rfl (TE.rw 10 (.i (w64 ((1+(k:Int))+1))) (.i (1+((k+1:Nat):Int))) Kr (int_eq (by first|omega|(rw[Zu (by omega)];omega)|(simp only[Ya] at *;omega))) (Z7 (x:=k) (k+1) ⟨by omega,hI.trans (by subst hr1 hr2;rw[hd];exact Zd h5 (rfl))⟩ (mN hlt) Kr (sb 3))))))))
     ·have hd:((of_-1).toNat)-k=0:=by have p0_:=(Zt h4);first|omega|(simp only[Ya] at *;omega)
      refine TC.exit (Yc (Yc (Z1 ?_)))
      exact TE.cut () (hI.trans (by subst hr1;rw[hd];exact rfl)) Kr (sb 3)
    ·intro _ hJ
     exact YZ (Zc 1 [1] [(58,Zg.v (⟨kor .i64 (Z6 .i64 (w64 (b_.Hits*2 ^ 1)) 65535) 1,ZC 16 (w64 (b_.Scans+1))⟩:Zg))] {} (Ym 0 (Bk b2 (Zg.c (⟨kor .i64 (Z6 .i64 (w64 (b_.Hits*2 ^ 1)) 65535) 1,ZC 16 (w64 (b_.Scans+1))⟩:Zg)) 109) (fun _=>{}) (Zc 3 [] [(9,.i 2)] {} (Zb rfl (TC.ret (TE.ret [0] (.tuple #[Zg.v (⟨kor .i64 (Z6 .i64 (w64 (b_.Hits*2 ^ 1)) 65535) 1,ZC 16 (w64 (b_.Scans+1))⟩:Zg),.i 2]) {} (by unfold QX;refine eS (a:=((⟨kor .i64 (Z6 .i64 (w64 (b_.Hits*2 ^ 1)) 65535) 1,ZC 16 (w64 (b_.Scans+1))⟩:Zg),2)) (fun (z:Zg×Int)=>(.tuple #[Zg.v z.1,.i z.2]:Value)) ?_;subst hr1;exact Zk h1 (Zd h2 (Zd h3 (Q2 (hR.symm.trans hJ) (rfl)))))))))))
 ·refine ZI (Zc 5 [1] [(25,.i (ZC 16 (w64 (b_.Scans+1)))),(26,.pt b1 1)] {} (Ym 1 (Bk b1 (Zg.c (⟨Z6 .i64 (w64 (b_.Hits*2 ^ 1)) 65535,ZC 16 (w64 (b_.Scans+1))⟩:Zg)) 109) (fun _=>{}) (Zz (Ze (Zc 2 [1] [(27,Zg.v (⟨Z6 .i64 (w64 (b_.Hits*2 ^ 1)) 65535,ZC 16 (w64 (b_.Scans+1))⟩:Zg)),(28,.i of_)] {} (TL.c 29 (J6 (⟨Z6 .i64 (w64 (b_.Hits*2 ^ 1)) 65535,ZC 16 (w64 (b_.Scans+1))⟩:Zg) of_) (fun r3=>.i r3) (fun w _=>VN (⟨Z6 .i64 (w64 (b_.Hits*2 ^ 1)) 65535,ZC 16 (w64 (b_.Scans+1))⟩:Zg) of_ w (by have m0_:=BD 16 (w64 (b_.Scans+1));have m1_:=BE 16 (w64 (b_.Scans+1));have m2_:=GO 16 (w64 (b_.Scans+1));exact sg)) {} (fun r3 hr3=>Zc 5 [] [(31,.b (decide (r3≥need)))] {} (Zb rfl (TC.cond (decide (r3≥need)) rfl Kr (fun h6=>?_) (fun h6=>?_))))))))))
  ·exact Ze (Zc 1 [1] [(32,Zg.v (⟨Z6 .i64 (w64 (b_.Hits*2 ^ 1)) 65535,ZC 16 (w64 (b_.Scans+1))⟩:Zg))] {} (Ym 0 (Bk b2 (Zg.c (⟨Z6 .i64 (w64 (b_.Hits*2 ^ 1)) 65535,ZC 16 (w64 (b_.Scans+1))⟩:Zg)) 109) (fun _=>{}) (Zc 3 [] [(9,.i 1)] {} (Zb rfl (TC.ret (Zq (TE.ret [0] (.tuple #[Zg.v (⟨Z6 .i64 (w64 (b_.Hits*2 ^ 1)) 65535,ZC 16 (w64 (b_.Scans+1))⟩:Zg),.i 1]) {} (by unfold QX;refine eS (a:=((⟨Z6 .i64 (w64 (b_.Hits*2 ^ 1)) 65535,ZC 16 (w64 (b_.Scans+1))⟩:Zg),1)) (fun (z:Zg×Int)=>(.tuple #[Zg.v z.1,.i z.2]:Value)) ?_;subst hr3;exact Zd h1 (Zk h6 (rfl))))))))))
  ·have yv:=(Zt h6)
   refine Yg (TC.seq (Ze (Zc 4 [1] [(36,.b (decide ((ZC 16 (w64 (b_.Scans+1)))<of_)))] {} (Zb rfl (TC.cond (decide ((ZC 16 (w64 (b_.Scans+1)))<of_)) rfl Kr (fun h7=>?_) (fun h7=>?_))))))
   ·exact Ze (Zc 1 [1] [(37,Zg.v (⟨Z6 .i64 (w64 (b_.Hits*2 ^ 1)) 65535,ZC 16 (w64 (b_.Scans+1))⟩:Zg))] {} (Ym 0 (Bk b2 (Zg.c (⟨Z6 .i64 (w64 (b_.Hits*2 ^ 1)) 65535,ZC 16 (w64 (b_.Scans+1))⟩:Zg)) 109) (fun _=>{}) (Zc 3 [] [(9,.i 0)] {} (Zb rfl (TC.ret (Zq (TE.ret [0] (.tuple #[Zg.v (⟨Z6 .i64 (w64 (b_.Hits*2 ^ 1)) 65535,ZC 16 (w64 (b_.Scans+1))⟩:Zg),.i 0]) {} (by unfold QX;refine eS (a:=((⟨Z6 .i64 (w64 (b_.Hits*2 ^ 1)) 65535,ZC 16 (w64 (b_.Scans+1))⟩:Zg),0)) (fun (z:Zg×Int)=>(.tuple #[Zg.v z.1,.i z.2]:Value)) ?_;subst hr3;exact Zd h1 (Zd h6 (Zk h7 (rfl)))))))))))
   ·have ym:=(Zt h7)
    refine Yg (TC.seq (Ze (Zc 1 [] [(10,.i 1)] {} (Zb rfl ?_))))
    obtain⟨R2,x9⟩:∃ R,R=V6 b_ need of_ ((of_-1).toNat) 0:=⟨_,rfl⟩
    refine TC.cut (S:=Unit) (fun (_:Unit)=>[(4,.p0 b1),(8,.p0 b2)]) (fun (_:Unit)=>[Bk b2 (Zg.c Zg.zero) 109,Bk b1 (Zg.c (⟨Z6 .i64 (w64 (b_.Hits*2 ^ 1)) 65535,ZC 16 (w64 (b_.Scans+1))⟩:Zg)) 109]) (fun (_:Unit)=>R2=.inl ()) ?_ ?_
    ·refine TC.block (TC.rw 10 (.i 1) (.i (1+((0:Nat):Int))) Kr (int_eq (by first|omega|(rw[Zu (by omega)];omega)|(simp only[Ya];omega))) (XB (X:=Nat) (fun k_2=>[(2,.i need),(3,.i of_),(4,.p0 b1),(8,.p0 b2),(10,.i (1+(k_2:Int)))]) (fun k_2=>[Bk b2 (Zg.c Zg.zero) 109,Bk b1 (Zg.c (⟨Z6 .i64 (w64 (b_.Hits*2 ^ 1)) 65535,ZC 16 (w64 (b_.Scans+1))⟩:Zg)) 109]) (fun k_2=>((of_-1).toNat)-k_2) (fun k_2=>k_2≤((of_-1).toNat)∧R2=V6 b_ need of_ (((of_-1).toNat)-k_2) k_2) ?_ 0 ⟨aN _,x9⟩ Kr (sb 3)))
     rintro k_2 ⟨y9,xg⟩
     refine TC.seq (Ze (Zc 3 [] [(40,.b (decide ((1+(k_2:Int))<of_)))] {} (Zb rfl (TC.cond (decide ((1+(k_2:Int))<of_)) rfl Kr (fun h8=>?_) (fun h8=>?_)))))
     ·have zp:k_2<((of_-1).toNat):=by have p0_:=(Ys h8);first|omega|(simp only[Ya] at *;omega)
      have zr:((of_-1).toNat)-k_2=(((of_-1).toNat)-(k_2+1))+1:=by omega
      have l6:=(Ys h8)
      refine Yg (TC.seq (TC.block (Ze (Zc 4 [1] [(43,Zg.v (⟨Z6 .i64 (w64 (b_.Hits*2 ^ 1)) 65535,ZC 16 (w64 (b_.Scans+1))⟩:Zg)),(46,.i (w64 (of_-(1+(k_2:Int)))))] {} (TL.c 47 (J6 (⟨Z6 .i64 (w64 (b_.Hits*2 ^ 1)) 65535,ZC 16 (w64 (b_.Scans+1))⟩:Zg) (w64 (of_-(1+(k_2:Int))))) (fun r4=>.i r4) (fun w _=>VN (⟨Z6 .i64 (w64 (b_.Hits*2 ^ 1)) 65535,ZC 16 (w64 (b_.Scans+1))⟩:Zg) (w64 (of_-(1+(k_2:Int)))) w (by have m0_:=BD 16 (w64 (b_.Scans+1));have m1_:=BE 16 (w64 (b_.Scans+1));have m2_:=GO 16 (w64 (b_.Scans+1));exact sg)) {} (fun r4 hr4=>Zc 6 [] [(11,.i r4)] {} (Zv (Zc 3 [] [(50,.b (decide (r4>0)))] {} (XT 50 (decide (r4>0)) 9 [] [] (fun β=>[(56,.b (β&&(decide ((w64 (r4+(1+(k_2:Int))))≥need))))]) Kr {} {} (Zb rfl (TC.cond ((decide (r4>0))&&(decide ((w64 (r4+(1+(k_2:Int))))≥need))) rfl Kr (fun h9=>?_) (fun h9=>?_))))))))))))
      ·refine Ze (Zc 1 [1] [(57,Zg.v (⟨Z6 .i64 (w64 (b_.Hits*2 ^ 1)) 65535,ZC 16 (w64 (b_.Scans+1))⟩:Zg))] {} (Ym 0 (Bk b2 (Zg.c (⟨Z6 .i64 (w64 (b_.Hits*2 ^ 1)) 65535,ZC 16 (w64 (b_.Scans+1))⟩:Zg)) 109) (fun _=>{}) (Zc 3 [] [(9,.i 0)] {} (Zb rfl (TC.ret (ZY (Zq (Zq (ZY (Zq (Zq ?_)))))))))))
       exact TE.ret [0] (.tuple #[Zg.v (⟨Z6 .i64 (w64 (b_.Hits*2 ^ 1)) 65535,ZC 16 (w64 (b_.Scans+1))⟩:Zg),.i 0]) {} (by unfold QX;refine eS (a:=((⟨Z6 .i64 (w64 (b_.Hits*2 ^ 1)) 65535,ZC 16 (w64 (b_.Scans+1))⟩:Zg),0)) (fun (z:Zg×Int)=>(.tuple #[Zg.v z.1,.i z.2]:Value)) ?_;subst hr3 hr4;exact Zd h1 (Zd h6 (Zd h7 (Q4 (x9.symm.trans (xg.trans (by rw[zr];exact Zk h9 (rfl)))) rfl))))
      ·have nf:=((Qq h9).imp (fun h=>(Zt h)) (fun h=>(Zt h)))
       exact TC.skip (Yr (Z4 (TC.region (Zc 3 [] [(10,.i (w64 ((1+(k_2:Int))+1)))] {} (Z2 rfl (TE.rw 10 (.i (w64 ((1+(k_2:Int))+1))) (.i (1+((k_2+1:Nat):Int))) Kr (int_eq (by first|omega|(rw[Zu (by omega)];omega)|(simp only[Ya] at *;omega))) (Z7 (x:=k_2) (k_2+1) ⟨by omega,xg.trans (by subst hr3 hr4;rw[zr];exact Zd h9 (rfl))⟩ (mN zp) Kr (sb 3))))))))
     ·have zr:((of_-1).toNat)-k_2=0:=by have p0_:=(Zt h8);first|omega|(simp only[Ya] at *;omega)
      refine TC.exit (Yc (Yc (Z1 ?_)))
      exact TE.cut () (xg.trans (by subst hr3;rw[zr];exact rfl)) Kr (sb 3)
    ·intro _ va
     exact YZ (Zc 1 [1] [(58,Zg.v (⟨Z6 .i64 (w64 (b_.Hits*2 ^ 1)) 65535,ZC 16 (w64 (b_.Scans+1))⟩:Zg))] {} (Ym 0 (Bk b2 (Zg.c (⟨Z6 .i64 (w64 (b_.Hits*2 ^ 1)) 65535,ZC 16 (w64 (b_.Scans+1))⟩:Zg)) 109) (fun _=>{}) (Zc 3 [] [(9,.i 2)] {} (Zb rfl (TC.ret (TE.ret [0] (.tuple #[Zg.v (⟨Z6 .i64 (w64 (b_.Hits*2 ^ 1)) 65535,ZC 16 (w64 (b_.Scans+1))⟩:Zg),.i 2]) {} (by unfold QX;refine eS (a:=((⟨Z6 .i64 (w64 (b_.Hits*2 ^ 1)) 65535,ZC 16 (w64 (b_.Scans+1))⟩:Zg),2)) (fun (z:Zg×Int)=>(.tuple #[Zg.v z.1,.i z.2]:Value)) ?_;subst hr3;exact Zd h1 (Zd h6 (Zd h7 (Q2 (x9.symm.trans va) (rfl)))))))))))
def K1 (b_:Zg) (hit:Bool) (need:Int) (of_:Int):Zg×Int×Int :=
 let r1:=K0 b_
 cond (r1 != 0) (
  ((⟨0,0⟩:Zg),0,r1)) (
  let r2:=Qj need of_
  cond (r2 != 0) (
   ((⟨0,0⟩:Zg),0,r2)) (
   let r3:=QX b_ hit need of_
   (r3.1,r3.2,0)))
theorem E2 {need of_ r:Int} (hr:Qj need of_=r) (h:(r != 0)=false):1≤of_∧of_≤16:=by
 subst hr
 unfold Qj at h
 cases hc:((((decide (of_<1))||(decide (of_>16)))||(decide (need<1)))||(decide (need>of_))) with
 | true=>simp only[hc,cond_true] at h;cases h
 | false =>
  have q:=Zx (Zx hc)
  have q1:=Zt (Zx q)
  have q2:=Zt (Z9 q)
  omega
theorem NC (b_:Zg) (hit:Bool) (need:Int) (of_:Int) (w:World):Calls Tryz.prog 91 #[Zg.v b_,.bool hit,.int .i64 need,.int .i64 of_] w (Ret w (.tuple #[Zg.v ((K1 b_ hit need of_).1),.int .i64 ((K1 b_ hit need of_).2.1),.int .i64 ((K1 b_ hit need of_).2.2)])):=by
 refine Zo (vs:=[Zg.v b_,.b hit,.i need,.i of_]) (w:=w) Tryz.func91 rfl Tryz.ntmps91 rfl (Ze (ZH 4 (fun b1=>.p0 b1) (fun b1=>Bk b1 (Zg.c b_) 109) (fun b1=>{}) (fun b1=>ZH 8 (fun b2=>.p0 b2) (fun b2=>Bk b2 (Zg.c Zg.zero) 109) (fun b2=>{}) (fun b2=>Zc 4 [] [(9,.i 0),(10,.i 0)] {} (Zz (Ze (Zc 1 [1] [(14,Zg.v b_)] {} (TL.c 15 (K0 b_) (fun r1=>.i r1) (fun w _=>DX b_ w) {} (fun r1 hr1=>Zc 3 [] [(11,.i r1)] {} (Zv (Zc 2 [] [(17,.b (r1 != 0))] {} (Zb rfl (TC.cond (r1 != 0) rfl Kr (fun h1=>?_) (fun h1=>?_))))))))))))))
 ·exact Ze (Zc 2 [] [(18,Zg.v Zg.zero),(19,.i r1)] {} (Ym 0 (Bk b2 (Zg.c Zg.zero) 109) (fun _=>{}) (Zc 5 [] [(9,.i 0),(10,.i r1)] {} (Zb rfl (TC.ret (Zq (TE.ret [0] (.tuple #[Zg.v (⟨0,0⟩:Zg),.i 0,.i r1]) {} (by unfold K1;refine eS (a:=((⟨0,0⟩:Zg),0,r1)) (fun (z:Zg×Int×Int)=>(.tuple #[Zg.v z.1,.i z.2.1,.i z.2.2]:Value)) ?_;subst hr1;exact Zk h1 (rfl)))))))))
 ·refine Yg (TC.seq (Ze (Zc 2 [] [(20,.i need),(21,.i of_)] {} (TL.c 22 (Qj need of_) (fun r2=>.i r2) (fun w _=>U5 need of_ w) {} (fun r2 hr2=>Zc 4 [] [(12,.i r2)] {} (Zv (Zc 2 [] [(24,.b (r2 != 0))] {} (Zb rfl (TC.cond (r2 != 0) rfl Kr (fun h2=>?_) (fun h2=>?_))))))))))
  ·exact Ze (Zc 2 [] [(25,Zg.v Zg.zero),(26,.i r2)] {} (Ym 0 (Bk b2 (Zg.c Zg.zero) 109) (fun _=>{}) (Zc 5 [] [(9,.i 0),(10,.i r2)] {} (Zb rfl (TC.ret (Zq (TE.ret [0] (.tuple #[Zg.v (⟨0,0⟩:Zg),.i 0,.i r2]) {} (by unfold K1;refine eS (a:=((⟨0,0⟩:Zg),0,r2)) (fun (z:Zg×Int×Int)=>(.tuple #[Zg.v z.1,.i z.2.1,.i z.2.2]:Value)) ?_;subst hr1 hr2;exact Zd h1 (Zk h2 (rfl))))))))))
  ·exact ZI (Zc 4 [1] [(28,Zg.v b_),(29,.b hit),(30,.i need),(31,.i of_)] {} (TL.c 32 (QX b_ hit need of_) (fun r3=>.tuple #[Zg.v r3.1,.i r3.2]) (fun w _=>NB b_ hit need of_ w (E2 hr2 h2)) {} (fun r3 hr3=>Zc 8 [] [(33,Zg.v r3.1),(34,.i r3.2)] {} (Ym 1 (Bk b1 (Zg.c r3.1) 109) (fun _=>{}) (Zc 10 [] [(13,.i r3.2)] {} (Zv (Zc 2 [1] [(35,Zg.v r3.1),(36,.i r3.2)] {} (Ym 0 (Bk b2 (Zg.c r3.1) 109) (fun _=>{}) (Zc 5 [] [(9,.i r3.2),(10,.i 0)] {} (Zb rfl (TC.ret (TE.ret [0] (.tuple #[Zg.v r3.1,.i r3.2,.i 0]) {} (by unfold K1;refine eS (a:=(r3.1,r3.2,0)) (fun (z:Zg×Int×Int)=>(.tuple #[Zg.v z.1,.i z.2.1,.i z.2.2]:Value)) ?_;subst hr1 hr2 hr3;exact Zd h1 (Zd h2 (rfl)))))))))))))))
end Go.Sky
end
section
namespace Go.Sky
open Go Go.Eng Go.Proofs
def J7 (r_:ZB):Int :=
 let r1:=Qj r_.Need r_.Of
 cond (r1 != 0) (
  r1) (
  cond ((((((((decide (r_.Misses<0))||(decide (r_.Misses>100)))||(decide (r_.Accel<0)))||(decide (r_.Accel>20)))||(decide (r_.Place<0)))||(decide (r_.Place>256)))||(decide (r_.Speed<0)))||(decide (r_.Speed>256))) (
   4) (
   0))
theorem Bm (r_:ZB) (w:World):Calls Tryz.prog 43 #[ZB.v r_] w (Ret w (.int .i64 (J7 r_))):=by
 refine Zo (vs:=[ZB.v r_]) (w:=w) Tryz.func43 rfl Tryz.ntmps43 rfl (Ze (ZH 1 (fun b1=>.p0 b1) (fun b1=>Bk b1 (ZB.c r_) 64) (fun b1=>{}) (fun b1=>Zc 2 [] [(2,.i 0)] {} (Zz (Ze (Zc 4 [0,0] [(5,.i r_.Need),(7,.i r_.Of)] {} (TL.c 8 (Qj r_.Need r_.Of) (fun r1=>.i r1) (fun w _=>U5 r_.Need r_.Of w) {} (fun r1 hr1=>Zc 6 [] [(3,.i r1)] {} (Zv (Zc 2 [] [(10,.b (r1 != 0))] {} (Zb rfl (TC.cond (r1 != 0) rfl Kr (fun h1=>?_) (fun h1=>?_)))))))))))))
 ·exact Ze (Zc 2 [] [(2,.i r1)] {} (Zb rfl (TC.ret (Zq (TE.ret [] (.i r1) {} (by unfold J7;refine eS (fun z=>(.i z:Value)) ?_;subst hr1;exact Zk h1 (rfl)))))))
 ·refine Yg (TC.seq (Ze (Zc 4 [0] [(15,.b (decide (r_.Misses<0)))] {} (XT 15 (decide (r_.Misses<0)) 8 [] [0] (fun β=>[(19,.b (β||(decide (r_.Misses>100))))]) Kr {} {} (Zc 9 [] [(20,.b ((decide (r_.Misses<0))||(decide (r_.Misses>100))))] {} (XT 20 ((decide (r_.Misses<0))||(decide (r_.Misses>100))) 13 [] [0] (fun β=>[(24,.b (β||(decide (r_.Accel<0))))]) Kr {} {} (Zc 14 [] [(25,.b (((decide (r_.Misses<0))||(decide (r_.Misses>100)))||(decide (r_.Accel<0))))] {} (XT 25 (((decide (r_.Misses<0))||(decide (r_.Misses>100)))||(decide (r_.Accel<0))) 18 [] [0] (fun β=>[(29,.b (β||(decide (r_.Accel>20))))]) Kr {} {} (Zc 19 [] [(30,.b ((((decide (r_.Misses<0))||(decide (r_.Misses>100)))||(decide (r_.Accel<0)))||(decide (r_.Accel>20))))] {} (XT 30 ((((decide (r_.Misses<0))||(decide (r_.Misses>100)))||(decide (r_.Accel<0)))||(decide (r_.Accel>20))) 23 [] [0] (fun β=>[(34,.b (β||(decide (r_.Place<0))))]) Kr {} {} (Zc 24 [] [(35,.b (((((decide (r_.Misses<0))||(decide (r_.Misses>100)))||(decide (r_.Accel<0)))||(decide (r_.Accel>20)))||(decide (r_.Place<0))))] {} (XT 35 (((((decide (r_.Misses<0))||(decide (r_.Misses>100)))||(decide (r_.Accel<0)))||(decide (r_.Accel>20)))||(decide (r_.Place<0))) 28 [] [0] (fun β=>[(39,.b (β||(decide (r_.Place>256))))]) Kr {} {} (Zc 29 [] [(40,.b ((((((decide (r_.Misses<0))||(decide (r_.Misses>100)))||(decide (r_.Accel<0)))||(decide (r_.Accel>20)))||(decide (r_.Place<0)))||(decide (r_.Place>256))))] {} (XT 40 ((((((decide (r_.Misses<0))||(decide (r_.Misses>100)))||(decide (r_.Accel<0)))||(decide (r_.Accel>20)))||(decide (r_.Place<0)))||(decide (r_.Place>256))) 33 [] [0] (fun β=>[(44,.b (β||(decide (r_.Speed<0))))]) Kr {} {} (Zc 34 [] [(45,.b (((((((decide (r_.Misses<0))||(decide (r_.Misses>100)))||(decide (r_.Accel<0)))||(decide (r_.Accel>20)))||(decide (r_.Place<0)))||(decide (r_.Place>256)))||(decide (r_.Speed<0))))] {} (XT 45 (((((((decide (r_.Misses<0))||(decide (r_.Misses>100)))||(decide (r_.Accel<0)))||(decide (r_.Accel>20)))||(decide (r_.Place<0)))||(decide (r_.Place>256)))||(decide (r_.Speed<0))) 38 [] [0] (fun β=>[(49,.b (β||(decide (r_.Speed>256))))]) Kr {} {} (Zb rfl (TC.cond ((((((((decide (r_.Misses<0))||(decide (r_.Misses>100)))||(decide (r_.Accel<0)))||(decide (r_.Accel>20)))||(decide (r_.Place<0)))||(decide (r_.Place>256)))||(decide (r_.Speed<0)))||(decide (r_.Speed>256))) rfl Kr (fun h2=>?_) (fun h2=>?_)))))))))))))))))))
  ·exact Ze (Zc 1 [] [(2,.i 4)] {} (Zb rfl (TC.ret (Zq (TE.ret [] (.i 4) {} (by unfold J7;refine eS (fun z=>(.i z:Value)) ?_;subst hr1;exact Zd h1 (Zk h2 (rfl))))))))
  ·exact ZI (Zc 1 [] [(2,.i 0)] {} (Zb rfl (TC.ret (TE.ret [] (.i 0) {} (by unfold J7;refine eS (fun z=>(.i z:Value)) ?_;subst hr1;exact Zd h1 (Zd h2 (rfl)))))))
def YX (r_:ZB):Zi×Int :=
 let r1:=J7 r_
 cond (r1 != 0) (
  (Zi.zero,0)) (
  ((⟨r_,([]:List followed),0,(-1)⟩:Zi),0))
theorem DY (r_:ZB) (w:World) (hM:Sat ⟨w,XS []⟩ [] w) (hc:J7 r_=0):Calls Tryz.prog 17 #[ZB.v r_] w (JD (Γ:=Nat×(Option Addr×Nat)) ⟨w,XS []⟩ (fun g=>.tuple #[.pointer (some ⟨g.1,0,none⟩),.int .i64 ((YX r_).2)]) (fun g=>[.inl (g.1,.cells (Zi.k (⟨⟨((YX r_).1).rules.Need,((YX r_).1).rules.Of,((YX r_).1).rules.Misses,((YX r_).1).rules.Accel,((YX r_).1).rules.Place,((YX r_).1).rules.Speed⟩,((YX r_).1).all,((YX r_).1).next,((YX r_).1).last⟩:Zi) g.2.1 g.2.2) 104 (0,0)),.inr (Own g.2.1 g.2.2 111 23 ((((YX r_).1).all).map followed.c))])):=by
 refine YW (w0:=⟨w,XS []⟩) (vs:=[ZB.v r_]) hM Tryz.func17 rfl Tryz.ntmps17 rfl (Ze (ZH 1 (fun b1=>.p0 b1) (fun b1=>Bk b1 (ZB.c r_) 64) (fun b1=>{}) (fun b1=>Zc 3 [] [(2,.pointer none),(3,.i 0)] {} (Zz (Ze (Zc 1 [0] [(5,ZB.v r_)] {} (TL.c 6 (J7 r_) (fun r1=>.i r1) (fun w _=>Bm r_ w) {} (fun r1 hr1=>Zc 3 [] [(4,.i r1)] {} (Zv (Zc 2 [] [(8,.b (r1 != 0))] {} (Zb rfl (TC.cond (r1 != 0) rfl Kr (fun h1=>?_) (fun h1=>?_)))))))))))))
 ·exact((by rw[hc] at hr1;subst hr1;cases h1):False).elim
 ·refine ZI (Zc 2 [0] [(11,.agg #[.i r_.Need,.i r_.Of,.i r_.Misses,.i r_.Accel,.i r_.Place,.i r_.Speed,.slice none 0 0,.i 0,.i (-1)])] {} (ZH 12 (fun b2=>.p0 b2) (fun b2=>Bk b2 (Zi.k (⟨r_,[],0,(-1)⟩:Zi) none 0) 104) (fun b2=>{}) (fun b2=>Zc 5 [] [(2,.p0 b2),(3,.i 0)] {} (Zb rfl (TC.ret (Yp [Ow none 0 111 23 (([]:List followed).map followed.c),Bk b2 (Zi.k (⟨r_,[],0,(-1)⟩:Zi) none 0) 104,Bk b1 (ZB.c r_) 64] (fun _ hM=>hM.emptyrow none 111 23) (Yp [Ow none 0 111 23 (([]:List followed).map followed.c),Bk b2 (Zi.k (⟨r_,([]:List followed),0,(-1)⟩:Zi) none 0) 104,Bk b1 (ZB.c r_) 64] (fun _ hM=>hM) ?_)))))))
  have e:YX r_=((⟨r_,([]:List followed),0,(-1)⟩:Zi),0):=by subst hr1;unfold YX;exact Zd h1 (rfl)
  refine Yp [Bk b2 (Zi.k (⟨r_,([]:List followed),0,(-1)⟩:Zi) none 0) 104,Ow none 0 111 23 (([]:List followed).map followed.c),Bk b1 (ZB.c r_) 64] (fun _ hM=>hM.perm (px [1,0,2])) ?_
  rw[e]
  exact ZN (.inl rfl) (b2,(none,0)) [] (.tuple #[.p0 b2,.i 0]) {} rfl (fun _ hM=>hM.sub (sb 3))
def Xk (time:Int):List Zm→Nat→((Unit) ⊕ (Int))
 | [],_=>.inl ()
 | x::xs,k=>let r1:=ZD x
  cond (r1 != 0) (
   .inr r1) (
   cond (x.Time != time) (
    .inr 12) (
    Xk time xs (k+1)))
def Yb (t:Zi) (l:List Zm) (time:Int):Int :=
 cond (decide ((l.length:Int)>32)) (
  2) (
  cond ((decide (time<0))||(decide (time>200000))) (
   4) (
   cond (decide (time≤t.last)) (
    12) (
    Sum.elim (fun _ =>
     0) (fun r=>r) (Xk time l 0))))
set_option maxHeartbeats 4000000 in
theorem UO (a_t:Addr) (t:Zi) (A_t_all:Option Addr) (qc:Nat) (A_l:Option Addr) (c_l:Nat) (l:List Zm) (time:Int) (w:World) (h_t:Rd w 9 (some a_t) [#[.int .i64 t.rules.Need,.int .i64 t.rules.Of,.int .i64 t.rules.Misses,.int .i64 t.rules.Accel,.int .i64 t.rules.Place,.int .i64 t.rules.Speed,.slice A_t_all t.all.length qc,.int .i64 t.next,.int .i64 t.last]]) (fp:Rd w 23 A_t_all (t.all.map followed.c)) (_hl_t_all:t.all.length≤qc) (h_l:Rd w 6 A_l (l.map Zm.c)) (_hc_l:l.length≤c_l):Calls Tryz.prog 44 #[.pointer (some a_t),.slice A_l l.length c_l,.int .i64 time] w (Ret w (.int .i64 (Yb t l time))):=by
 have yo:=fp.short;rw[aF] at yo
 have s_l:=h_l.short;rw[aF] at s_l
 refine Zo (vs:=[.pointer (some a_t),.slice A_l l.length c_l,.i time]) (w:=w) Tryz.func44 rfl Tryz.ntmps44 rfl (Ze (Zc 1 [] [(6,.i 0)] {} (Zz (TC.block (Ze (Zc 4 [] [(10,.b (decide ((l.length:Int)>32)))] {} (Zb rfl (TC.cond (decide ((l.length:Int)>32)) rfl Kr (fun h1=>?_) (fun h1=>?_)))))))))
 ·refine Ze (Zc 1 [] [(6,.i 2)] {} (Zb rfl (TC.ret (ZY (Zq ?_)))))
  exact TE.ret [] (.i 2) {} (by unfold Yb;refine eS (fun z=>(.i z:Value)) ?_;exact Zk h1 (rfl))
 ·have j4:=(Zt h1)
  refine Ze (Zc 3 [] [(17,.b (decide (time<0)))] {} (XT 17 (decide (time<0)) 6 [] [] (fun β=>[(20,.b (β||(decide (time>200000))))]) Kr {} {} (Zc 7 [] [(14,.b ((decide (time<0))||(decide (time>200000))))] {} (Zb rfl (TC.cond ((decide (time<0))||(decide (time>200000))) rfl Kr (fun h2=>?_) (fun h2=>?_))))))
  ·refine Ze (Zc 1 [] [(6,.i 4)] {} (Zb rfl (TC.ret (ZY (Zq ?_)))))
   exact TE.ret [] (.i 4) {} (by unfold Yb;refine eS (fun z=>(.i z:Value)) ?_;exact Zd h1 (Zk h2 (rfl)))
  ·have vr:=(Zt (Zx h2))
   have ng:=(Zt (Z9 h2))
   refine Ze (Zc 4 [] [(22,.i time),(25,.pointer (some (a_t.add 8)))] {} (TL.v (sV (Instr.loadAt 3 (.pointer (some (a_t.add 8))))) 26 (.i t.last) (fun w hM=>Z3 (off:=8) (.i t.last) (h_t.sat hM) (Jk _) Kr Kr) {} (Zc 7 [] [(21,.b (decide (time≤t.last)))] {} (Zb rfl (TC.cond (decide (time≤t.last)) rfl Kr (fun h3=>?_) (fun h3=>?_))))))
   ·refine Ze (Zc 1 [] [(6,.i 12)] {} (Zb rfl (TC.ret (ZY (Zq ?_)))))
    exact TE.ret [] (.i 12) {} (by unfold Yb;refine eS (fun z=>(.i z:Value)) ?_;exact Zd h1 (Zd h2 (Zk h3 (rfl))))
   ·have wm:=(Zt h3)
    refine TC.skip (Yr (Z4 (TC.seq (Ze (Zc 3 [] [(28,.slice A_l l.length c_l),(29,.i (l.length:Int)),(30,.i 0)] {} (Zb rfl ?_))))))
    obtain⟨R1,hR⟩:∃ R,R=Xk time l 0:=⟨_,rfl⟩
    refine TC.cut (S:=Unit) (fun (_:Unit)=>[]) (fun (_:Unit)=>[]) (fun (_:Unit)=>R1=.inl ()) ?_ ?_
    ·refine TC.block (XB (X:=Nat) (fun k=>[(2,.i time),(28,.slice A_l l.length c_l),(29,.i (l.length:Int)),(30,.i (k:Int))]) (fun k=>[]) (fun k=>l.length-k) (fun k=>k≤l.length∧R1=Xk time (l.drop k) k) ?_ 0 ⟨aN _,hR⟩ Kr (sb 0))
     rintro k ⟨hk,hI⟩
     refine Ze (Zc 1 [] [(31,.b (decide ((k:Int)<(l.length:Int))))] {} (Zz (TC.cond (decide ((k:Int)<(l.length:Int))) rfl Kr (fun h4=>?_) (fun h4=>?_))))
     ·have hlt:=ltN h4
      obtain⟨x,hx⟩:=elN hlt
      have hd:=drop_at hx
      refine Yg (TC.seq (TC.block (Ze (TL.v (sV (Instr.indexAt 52 (.slice A_l l.length c_l) (.i (k:Int)))) 32 (.pointer (some (Ix A_l (k*6)))) (fun w hM=>Zy (h_l.sat hM) (by simp) Kr sd sd) {} (TL.v (sV (Instr.loadAt 46 (.pointer (some (Ix A_l (k*6)))))) 33 (Zm.v x) (fun w hM=>Yd (n:=6) (off:=0) (i:=k) (Zm.v x) (h_l.sat hM) (ZR hx) Kr Kr Kr) {} (ZH 8 (fun b1=>.p0 b1) (fun b1=>Bk b1 (Zm.c Zm.zero) 46) (fun b1=>{}) (fun b1=>Ym 0 (Bk b1 (Zm.c x) 46) (fun _=>{}) (Zz (Ze (Zc 1 [0] [(34,Zm.v x)] {} (TL.c 35 (ZD x) (fun r1=>.i r1) (fun w _=>Qc x w) {} (fun r1 hr1=>Zc 3 [] [(9,.i r1)] {} (Zv (Zc 2 [] [(37,.b (r1 != 0))] {} (Zb rfl (TC.cond (r1 != 0) rfl Kr (fun h5=>?_) (fun h5=>?_)))))))))))))))))
      ·refine Ze (Zc 2 [] [(6,.i r1)] {} (Zb rfl (TC.ret (Zq (ZY (Zq (Zq (ZY (Zq (Zq ?_))))))))))
       exact TE.ret [] (.i r1) {} (by unfold Yb;refine eS (fun z=>(.i z:Value)) ?_;subst hr1;exact Zd h1 (Zd h2 (Zd h3 (Q4 (hR.symm.trans (hI.trans (by rw[hd];exact Zk h5 (rfl)))) rfl))))
      ·have yr:=(Jb h5)
       refine ZI (Zc 4 [0] [(42,.b (x.Time != time))] {} (Zb rfl (TC.cond (x.Time != time) rfl Kr (fun h6=>?_) (fun h6=>?_))))
       ·refine Ze (Zc 1 [] [(6,.i 12)] {} (Zb rfl (TC.ret (ZY (Zq (Zq (ZY (Zq (Zq ?_)))))))))
        exact TE.ret [] (.i 12) {} (by unfold Yb;refine eS (fun z=>(.i z:Value)) ?_;subst hr1;exact Zd h1 (Zd h2 (Zd h3 (Q4 (hR.symm.trans (hI.trans (by rw[hd];exact Zd h5 (Zk h6 (rfl))))) rfl))))
       ·have yv:=(Jb h6)
        exact TC.skip (Yr (Z4 (TC.region (Zc 2 [] [(30,.i (w64 ((k:Int)+1)))] {} (Z2 rfl (TE.rw 30 (.i (w64 ((k:Int)+1))) (.i ((k+1:Nat):Int)) Kr (ZT k (by omega)) (Z7 (x:=k) (k+1) ⟨by omega,hI.trans (by subst hr1;rw[hd];exact Zd h5 (Zd h6 (rfl)))⟩ (mN hlt) Kr (sb 0))))))))
     ·have hd:=QE h4
      refine TC.exit (Yc (Yc (Z1 ?_)))
      exact TE.cut () (hI.trans (by rw[hd];exact rfl)) Kr (sb 0)
    ·intro _ hJ
     exact YZ (Zc 1 [] [(6,.i 0)] {} (Zb rfl (TC.ret (TE.ret [] (.i 0) {} (by unfold Yb;refine eS (fun z=>(.i z:Value)) ?_;exact Zd h1 (Zd h2 (Zd h3 (Q2 (hR.symm.trans hJ) (rfl)))))))))
def ZK (t:Zi):List followed→Nat→(List followed)→(List followed)
 | [],_,stay=>stay
 | x::xs,k,stay=>cond (x.f.Track.State==0) (
   let r1:=K1 x.history x.hit t.rules.Need t.rules.Of
   cond (r1.2.1==2) (
    ZK t xs (k+1) stay) (
    cond (r1.2.1==1) (
     ZK t xs (k+1) (stay++([(⟨⟨⟨x.f.Track.ID,1,x.f.Track.Time,x.f.Track.At,x.f.Track.Speed,x.f.Track.Height,x.f.Track.Rate,x.f.Track.Radius,x.f.Track.Code,x.f.Track.Hits,x.f.Track.Misses⟩,x.f.Slack,x.f.Last⟩,r1.1,x.hit⟩:followed)]))) (
     ZK t xs (k+1) (stay++([(⟨x.f,r1.1,x.hit⟩:followed)]))))) (
   ZK t xs (k+1) (stay++([x])))
def ZF (t:Zi):Zi :=
 Xq (ZK t t.all 0 ([]:List followed)) (fun jw =>
  (⟨t.rules,jw,t.next,t.last⟩:Zi))
theorem Uo (b_t:Nat) (t:Zi) (A_t_all:Option Addr) (qc:Nat) (w:World) (hM:Sat ⟨w,XS [.inl (b_t,.cells (Zi.k t A_t_all qc) 104 (0,0)),.inr (Own A_t_all qc 111 23 (t.all.map followed.c))]⟩ [.inl (b_t,.cells (Zi.k t A_t_all qc) 104 (0,0)),.inr (Own A_t_all qc 111 23 (t.all.map followed.c))] w) (hn:t.all.length≤64):Calls Tryz.prog 52 #[.pointer (some ⟨b_t,0,none⟩)] w (JD (Γ:=(Option Addr×Nat)) ⟨w,XS [.inl (b_t,.cells (Zi.k t A_t_all qc) 104 (0,0)),.inr (Own A_t_all qc 111 23 (t.all.map followed.c))]⟩ (fun _=>.tuple #[]) (fun g=>[.inl (b_t,.cells (Zi.k (⟨⟨(ZF t).rules.Need,(ZF t).rules.Of,(ZF t).rules.Misses,(ZF t).rules.Accel,(ZF t).rules.Place,(ZF t).rules.Speed⟩,(ZF t).all,(ZF t).next,(ZF t).last⟩:Zi) g.1 g.2) 104 (0,0)),.inr (Own g.1 g.2 111 23 (((ZF t).all).map followed.c))])):=by
 refine YW (w0:=⟨w,XS [Bk b_t (Zi.k t A_t_all qc) 104,Ow A_t_all qc 111 23 (t.all.map followed.c)]⟩) (vs:=[.p0 b_t]) hM Tryz.func52 rfl Tryz.ntmps52 rfl (Gn (fun w hM=>hM.short_at 1 rfl) (fun yo=>Ze (Zc 1 [] [(2,.slice none 0 0)] {} (Zz (Ze (Zc 6 [0] [(11,.slice A_t_all t.all.length qc),(12,.i (t.all.length:Int)),(13,.i 0)] {} (Zb rfl (QS [Ow none 0 111 23 (([]:List followed).map followed.c),Bk b_t (Zi.k t A_t_all qc) 104,Ow A_t_all qc 111 23 (t.all.map followed.c)] (fun _ hM=>hM.emptyrow none 111 23) ?_))))))))
 obtain⟨R2,hR⟩:∃ R,R=ZK t t.all 0 ([]:List followed):=⟨_,rfl⟩
 refine TC.cut (S:=(List followed)×(Option Addr)×Nat) (fun (jw,A_stay_2,ji)=>[(0,.p0 b_t),(2,.slice A_stay_2 jw.length ji)]) (fun (jw,A_stay_2,ji)=>[Ow A_stay_2 ji 111 23 (jw.map followed.c),Bk b_t (Zi.k t A_t_all qc) 104,Ow A_t_all qc 111 23 (t.all.map followed.c)]) (fun (jw,A_stay_2,ji)=>R2=jw∧jw.length≤t.all.length) ?_ ?_
 ·refine TC.block (XB (X:=Nat×(List followed)×(Option Addr)×Nat) (fun (k,stay,A_stay,xb)=>[(0,.p0 b_t),(2,.slice A_stay stay.length xb),(11,.slice A_t_all t.all.length qc),(12,.i (t.all.length:Int)),(13,.i (k:Int))]) (fun (k,stay,A_stay,xb)=>[Ow A_stay xb 111 23 (stay.map followed.c),Bk b_t (Zi.k t A_t_all qc) 104,Ow A_t_all qc 111 23 (t.all.map followed.c)]) (fun (k,stay,A_stay,xb)=>t.all.length-k) (fun (k,stay,A_stay,xb)=>k≤t.all.length∧R2=ZK t (t.all.drop k) k stay∧stay.length≤k) ?_ (0,([]:List followed),none,0) ⟨aN _,hR,sz⟩ Kr (sb 7))
  rintro⟨k,stay,A_stay,xb⟩ ⟨hk,hI,c7⟩
  refine Ze (Zc 1 [] [(14,.b (decide ((k:Int)<(t.all.length:Int))))] {} (Zz (TC.cond (decide ((k:Int)<(t.all.length:Int))) rfl Kr (fun h1=>?_) (fun h1=>?_))))
  ·have hlt:=ltN h1
   obtain⟨x,hx⟩:=elN hlt
   have hd:=drop_at hx
   refine Yg (TC.seq (TC.block (Ze (TL.v (sV (Instr.indexAt 102 (.slice A_t_all t.all.length qc) (.i (k:Int)))) 15 (.pointer (some (Ix A_t_all (k*23)))) (fun w hM=>Zy (hM.rd_at 2 rfl) (by simp) Kr sd sd) {} (TL.v (sV (Instr.loadAt 111 (.pointer (some (Ix A_t_all (k*23)))))) 16 (followed.v x) (fun w hM=>Yd (n:=23) (off:=0) (i:=k) (followed.v x) (hM.rd_at 2 rfl) (ZR hx) Kr Kr Kr) {} (ZH 4 (fun b1=>.p0 b1) (fun b1=>Bk b1 (followed.c followed.zero) 111) (fun b1=>{}) (fun b1=>Ym 0 (Bk b1 (followed.c x) 111) (fun _=>{}) (Zz (Ze (Zc 5 [0] [(21,.b (x.f.Track.State==0))] {} (Zb rfl (TC.cond (x.f.Track.State==0) rfl Kr (fun h2=>?_) (fun h2=>?_)))))))))))))
   ·have vr:=(Xf h2)
    refine TC.seq ?_
    obtain⟨r1,hr1⟩:∃ r,K1 x.history x.hit t.rules.Need t.rules.Of=r:=⟨_,rfl⟩
    let Mr5_:Mem:=[Bk b1 (followed.c x) 111,Ow A_stay xb 111 23 (stay.map followed.c),Bk b_t (Zi.k t A_t_all qc) 104,Ow A_t_all qc 111 23 (t.all.map followed.c)]
    refine Jt (G:=Nat) (base:=[(0,.p0 b_t),(2,.slice A_stay stay.length xb),(4,.p0 b1),(11,.slice A_t_all t.all.length qc),(12,.i (t.all.length:Int)),(13,.i (k:Int))]) (vals:=fun γ=>[.pt b1 20,Zg.v x.history,.pt b1 22,.b x.hit,.p0 b_t,.p0 b_t,.p0 b_t,.p0 b_t,.i t.rules.Need,.p0 b_t,.p0 b_t,.p0 b_t,.pt b_t 1,.i t.rules.Of,.tuple #[Zg.v r1.1,.i r1.2.1,.i r1.2.2],.tuple #[Zg.v r1.1,.i r1.2.1,.i r1.2.2],Zg.v r1.1,.i r1.2.1,.i r1.2.2,.p0 γ,undef,.i r1.2.1,.i r1.2.2]) (writes:=[19,20]) (mem:=fun bs γ=>match bs with | [x19_,x20_]=>(bif x20_ then [Bk γ (Zg.c r1.1) 109] else bif x19_ then [Bk γ (Zg.c Zg.zero) 109] else [])++(Mr5_)|_=>[]) (0) (fun γ=>[(0,.p0 b_t),(2,.slice A_stay stay.length xb),(4,.p0 b1),(5,.p0 γ),(6,.i r1.2.1),(11,.slice A_t_all t.all.length qc),(12,.i (t.all.length:Int)),(13,.i (k:Int))]) Kr Kr Kr Kr Kr (fun γ=>Kr) (fun _ hM=>hM) (fun γ=>Kr) ?_ ?_
    ·skip
     exact Steps.run (i:=0) 14 [0,0,0,0,0,0,0,0,2,0,0,0,0,2] Mr5_ Kr Kr (fun S (γ:Nat) w hM=>by rw[mS2 rfl rfl] at hM;exact hM.sub (Zh (aA _))) Kr (fun (γ:Nat)=>{}) (Steps.call (i:=14) 91 (fun (γ:Nat)=>#[Zg.v x.history,.b x.hit,.i t.rules.Need,.i t.rules.Of]) (some 37) (fun (γ:Nat)=>.tuple #[Zg.v r1.1,.i r1.2.1,.i r1.2.2]) (fun (γ:Nat)=>[Bk b1 (followed.c x) 111,Ow A_stay xb 111 23 (stay.map followed.c),Bk b_t (Zi.k t A_t_all qc) 104,Ow A_t_all qc 111 23 (t.all.map followed.c)]) Kr (fun S (γ:Nat) w _ hM=>by rw[mS2 rfl rfl] at hM;exact hM.sub (Zh (aA _))) (fun (γ:Nat) w _=>by have h:=NC x.history x.hit t.rules.Need t.rules.Of w;rw[hr1] at h;exact h) (fun (γ:Nat)=>Kr) (fun (γ:Nat)=>Kr) (Steps.run (i:=15) 19 [0,0,0,0] Mr5_ Kr Kr (fun S (γ:Nat) w hM=>by rw[mS2 rfl rfl] at hM;exact hM.sub (Zh (aA _))) Kr (fun (γ:Nat)=>{}) (Steps.op (i:=19) (Γ:=Nat) (fun g (γ:Nat)=>g) (fun _=>[]) (fun b (γ:Nat)=>[Bk b (Zg.c Zg.zero) 109]) (fun S (γ:Nat)=>Mr5_) [19,20,21,22] (fun (γ:Nat)=>sV (Instr.alloc 109 true (.tuple #[]))) (some 5) (fun b (γ:Nat)=>.p0 b) (fun S (γ:Nat) hj hd hl=>by rw[mS2 hj (hl 20 Kr)];exact aC _) (fun S (γ:Nat) g hl=>by rw[mS2 (S:=upS S 19) (a0:=19) (a1:=20) rfl (hl 20 Kr)];exact(aC _).symm) (fun (γ:Nat) M' w hM=>Jd (v:=fun b=>.p0 b) (fun b M=>Kr) M' w hM) (fun (γ:Nat)=>Kr) (fun (γ:Nat) g=>Kr) Kr (fun (γ:Nat) g=>Kr) (Steps.put (i:=20) (fun (γ:Nat)=>[Bk γ (Zg.c Zg.zero) 109]) (fun (γ:Nat)=>[Bk γ (Zg.c r1.1) 109]) (fun S (γ:Nat)=>Mr5_) (fun (γ:Nat)=>sU (Instr.storeAt 109 (.p0 γ) (Zg.v r1.1))) none (fun S (γ:Nat) hj hd hl=>by rw[mS2 (hd 19 Kr) hj];exact aC _) (fun S (γ:Nat) _=>(aC _).symm) (fun (γ:Nat) M' w hM=>JJ (fun b M=>Kr) (fun b M=>Kr) M' w hM) (fun (γ:Nat)=>Kr) (fun (γ:Nat)=>Kr) (Steps.run (i:=21) 23 [0,0] Mr5_ Kr Kr (fun S (γ:Nat) w hM=>by rw[mS2 rfl rfl] at hM;exact hM.sub (Zh (aA _))) Kr (fun (γ:Nat)=>{}) (XH Kr))))))
    ·rintro b2
     refine Yp [Bk b2 (Zg.c r1.1) 109,Bk b1 (followed.c x) 111,Ow A_stay xb 111 23 (stay.map followed.c),Bk b_t (Zi.k t A_t_all qc) 104,Ow A_t_all qc 111 23 (t.all.map followed.c)] (fun _ hM=>hM) (YZ (Zc 2 [0] [(41,Zg.v r1.1),(42,.pt b1 20)] {} (Ym 1 (Bk b1 (followed.c (⟨x.f,r1.1,x.hit⟩:followed)) 111) (fun _=>{}) (Zz (Ze (Zc 2 [] [(44,.b (r1.2.1==2))] {} (Zb rfl (TC.cond (r1.2.1==2) rfl Kr (fun h3=>?_) (fun h3=>?_)))))))))
     ·have wm:=(Xf h3)
      refine TC.exit (Yc (Yc (Z1 ?_)))
      exact Z4 (TC.region (Zc 2 [] [(13,.i (w64 ((k:Int)+1)))] {} (Z2 rfl (TE.rw 13 (.i (w64 ((k:Int)+1))) (.i ((k+1:Nat):Int)) Kr (ZT k (by omega)) (Z7 (x:=(k,stay,A_stay,xb)) (k+1,stay,A_stay,xb) ⟨by omega,hI.trans (by subst hr1;rw[hd];exact Zk h2 (Zk h3 (rfl))),sl⟩ (mN hlt) Kr (sb 28))))))
     ·have wm:=(Yh h3)
      refine ZI (Zc 2 [] [(46,.b (r1.2.1==1))] {} (Zb rfl (TC.cond (r1.2.1==1) rfl Kr (fun h4=>?_) (fun h4=>?_))))
      ·have yl:=(Xf h4)
       refine TC.region (Zc 3 [] [(49,.pt b1 1)] {} (Ym 1 (Bk b1 (followed.c (⟨⟨⟨x.f.Track.ID,1,x.f.Track.Time,x.f.Track.At,x.f.Track.Speed,x.f.Track.Height,x.f.Track.Rate,x.f.Track.Radius,x.f.Track.Code,x.f.Track.Hits,x.f.Track.Misses⟩,x.f.Slack,x.f.Last⟩,r1.1,x.hit⟩:followed)) 111) (fun _=>{}) (Zb rfl (TC.region (Zc 2 [1] [(50,.slice A_stay stay.length xb),(51,followed.v (⟨⟨⟨x.f.Track.ID,1,x.f.Track.Time,x.f.Track.At,x.f.Track.Speed,x.f.Track.Height,x.f.Track.Rate,x.f.Track.Radius,x.f.Track.Code,x.f.Track.Hits,x.f.Track.Misses⟩,x.f.Slack,x.f.Last⟩,r1.1,x.hit⟩:followed))] {} (ZH 52 (fun b3=>.slice (Pa b3) 1 1) (fun b3=>Bk b3 (followed.c (⟨⟨⟨x.f.Track.ID,1,x.f.Track.Time,x.f.Track.At,x.f.Track.Speed,x.f.Track.Height,x.f.Track.Rate,x.f.Track.Radius,x.f.Track.Code,x.f.Track.Hits,x.f.Track.Misses⟩,x.f.Slack,x.f.Last⟩,r1.1,x.hit⟩:followed)) 111) (fun b3=>{}) (fun b3=>TL.os (Γ:=AN) (sV (Builtin.append_ #[102,102] 102 #[.slice A_stay stay.length xb,.slice (Pa b3) 1 1])) 53 (fun g=>.slice g.1 (stay++([(⟨⟨⟨x.f.Track.ID,1,x.f.Track.Time,x.f.Track.At,x.f.Track.Speed,x.f.Track.Height,x.f.Track.Rate,x.f.Track.Radius,x.f.Track.Code,x.f.Track.Hits,x.f.Track.Misses⟩,x.f.Slack,x.f.Last⟩,r1.1,x.hit⟩:followed)])).length g.2) 3 (fun g=>Ow g.1 g.2 111 23 ((stay++([(⟨⟨⟨x.f.Track.ID,1,x.f.Track.Time,x.f.Track.At,x.f.Track.Speed,x.f.Track.Height,x.f.Track.Rate,x.f.Track.Radius,x.f.Track.Code,x.f.Track.Hits,x.f.Track.Misses⟩,x.f.Slack,x.f.Last⟩,r1.1,x.hit⟩:followed)])).map followed.c)) (Jc (bytes:=184) 102 3 ([(⟨⟨⟨x.f.Track.ID,1,x.f.Track.Time,x.f.Track.At,x.f.Track.Speed,x.f.Track.Height,x.f.Track.Rate,x.f.Track.Radius,x.f.Track.Code,x.f.Track.Hits,x.f.Track.Misses⟩,x.f.Slack,x.f.Last⟩,r1.1,x.hit⟩:followed)]) Kr rfl rfl followed.one rfl (fun w hM=>(Rd.lit hM 0 _ rfl Kr Kr Kr)) rfl sa) {} ?_)))))))
       rintro⟨A,c⟩
       exact Zc 5 [] [(2,.slice A ((stay++([(⟨⟨⟨x.f.Track.ID,1,x.f.Track.Time,x.f.Track.At,x.f.Track.Speed,x.f.Track.Height,x.f.Track.Rate,x.f.Track.Radius,x.f.Track.Code,x.f.Track.Hits,x.f.Track.Misses⟩,x.f.Slack,x.f.Last⟩,r1.1,x.hit⟩:followed)])).length) c)] {} (Z2 rfl (Yr (Z4 (TC.region (Zc 2 [] [(13,.i (w64 ((k:Int)+1)))] {} (Z2 rfl (TE.rw 13 (.i (w64 ((k:Int)+1))) (.i ((k+1:Nat):Int)) Kr (ZT k (by omega)) (Z7 (x:=(k,stay,A_stay,xb)) (k+1,(stay++([(⟨⟨⟨x.f.Track.ID,1,x.f.Track.Time,x.f.Track.At,x.f.Track.Speed,x.f.Track.Height,x.f.Track.Rate,x.f.Track.Radius,x.f.Track.Code,x.f.Track.Hits,x.f.Track.Misses⟩,x.f.Slack,x.f.Last⟩,r1.1,x.hit⟩:followed)])),A,c) ⟨by omega,hI.trans (by subst hr1;rw[hd];exact Zk h2 (Zd h3 (Zk h4 (rfl)))),sl⟩ (mN hlt) Kr (sb 56)))))))))
      ·have yl:=(Yh h4)
       refine Yg (TC.region (Zc 2 [1] [(50,.slice A_stay stay.length xb),(51,followed.v (⟨x.f,r1.1,x.hit⟩:followed))] {} (ZH 52 (fun b4=>.slice (Pa b4) 1 1) (fun b4=>Bk b4 (followed.c (⟨x.f,r1.1,x.hit⟩:followed)) 111) (fun b4=>{}) (fun b4=>TL.os (Γ:=AN) (sV (Builtin.append_ #[102,102] 102 #[.slice A_stay stay.length xb,.slice (Pa b4) 1 1])) 53 (fun g=>.slice g.1 (stay++([(⟨x.f,r1.1,x.hit⟩:followed)])).length g.2) 3 (fun g=>Ow g.1 g.2 111 23 ((stay++([(⟨x.f,r1.1,x.hit⟩:followed)])).map followed.c)) (Jc (bytes:=184) 102 3 ([(⟨x.f,r1.1,x.hit⟩:followed)]) Kr rfl rfl followed.one rfl (fun w hM=>(Rd.lit hM 0 _ rfl Kr Kr Kr)) rfl sa) {} ?_))))
       rintro⟨A_2,c_2⟩
       exact Zc 5 [] [(2,.slice A_2 ((stay++([(⟨x.f,r1.1,x.hit⟩:followed)])).length) c_2)] {} (Z2 rfl (Yr (Z4 (TC.region (Zc 2 [] [(13,.i (w64 ((k:Int)+1)))] {} (Z2 rfl (TE.rw 13 (.i (w64 ((k:Int)+1))) (.i ((k+1:Nat):Int)) Kr (ZT k (by omega)) (Z7 (x:=(k,stay,A_stay,xb)) (k+1,(stay++([(⟨x.f,r1.1,x.hit⟩:followed)])),A_2,c_2) ⟨by omega,hI.trans (by subst hr1;rw[hd];exact Zk h2 (Zd h3 (Zd h4 (rfl)))),sl⟩ (mN hlt) Kr (sb 56)))))))))
   ·have vr:=(Yh h2)
    refine Yg (TC.region (Zc 2 [0] [(50,.slice A_stay stay.length xb),(51,followed.v x)] {} (ZH 52 (fun b5=>.slice (Pa b5) 1 1) (fun b5=>Bk b5 (followed.c x) 111) (fun b5=>{}) (fun b5=>TL.os (Γ:=AN) (sV (Builtin.append_ #[102,102] 102 #[.slice A_stay stay.length xb,.slice (Pa b5) 1 1])) 53 (fun g=>.slice g.1 (stay++([x])).length g.2) 2 (fun g=>Ow g.1 g.2 111 23 ((stay++([x])).map followed.c)) (Jc (bytes:=184) 102 2 ([x]) Kr rfl rfl followed.one rfl (fun w hM=>(Rd.lit hM 0 _ rfl Kr Kr Kr)) rfl sa) {} ?_))))
    rintro⟨A_3,c_3⟩
    exact Zc 5 [] [(2,.slice A_3 ((stay++([x])).length) c_3)] {} (Z2 rfl (Yr (Z4 (TC.region (Zc 2 [] [(13,.i (w64 ((k:Int)+1)))] {} (Z2 rfl (TE.rw 13 (.i (w64 ((k:Int)+1))) (.i ((k+1:Nat):Int)) Kr (ZT k (by omega)) (Z7 (x:=(k,stay,A_stay,xb)) (k+1,(stay++([x])),A_3,c_3) ⟨by omega,hI.trans (by rw[hd];exact Zd h2 (rfl)),sl⟩ (mN hlt) Kr (sb 28)))))))))
  ·have hd:=QE h1
   refine TC.exit (Yc (Yc (Z1 ?_)))
   exact TE.cut (stay,A_stay,xb) (⟨hI.trans (by rw[hd];exact rfl),sl⟩) Kr (sb 7)
 ·rintro⟨jw,A_stay_2,ji⟩ ⟨hJ,tg⟩
  refine Z4 (TC.region (Zc 4 [] [(56,.slice A_stay_2 jw.length ji),(58,.pt b_t 6)] {} (Ym 1 (Bk b_t (Zi.k (⟨t.rules,jw,t.next,t.last⟩:Zi) A_stay_2 ji) 104) (fun _=>{}) (Z2 rfl ?_))))
  have e:ZF t=(⟨t.rules,jw,t.next,t.last⟩:Zi):=by unfold ZF;exact Y5 (hR.symm.trans hJ) (rfl)
  refine Yp [Bk b_t (Zi.k (⟨t.rules,jw,t.next,t.last⟩:Zi) A_stay_2 ji) 104,Ow A_stay_2 ji 111 23 (jw.map followed.c),Ow A_t_all qc 111 23 (t.all.map followed.c)] (fun _ hM=>hM.perm (px [1,0,2])) ?_
  rw[e]
  exact ZN (.inr rfl) (A_stay_2,ji) [] (.tuple #[]) {} rfl (fun _ hM=>hM.sub (sb 3))
end Go.Sky
end
section
namespace Go.Eng
open Go.RowKit (Below)
theorem AQ {g:Option Addr} {c sz:Nat}:(if c=0 then g else g.map (fun a=>a.add (0*sz)))=g:=by
 split
 ·rfl
 ·cases g with
  | none=>rfl
  | some a=>rw[eF];rfl
theorem RF {α:Type} {c:α→Array Value} {P:Program} {w0:Ctx} {M:Mem} {t tn e sz bytes:Nat} {kq kn:IntKind} (ty:TypeId) (k:Nat) (hT:Uu P t e sz bytes=true) (htn:P.underlying tn=some (.int kn)) (hsz:Nat.blt 0 sz=true)
  (h0:0<k) (hb:k*bytes≤140737488355328∧k≤140737488355328) (w:World) (hM:Sat w0 M w) :
  ∃ (g:Option Addr×Nat) (w':World),(sV (Builtin.append_ #[t,tn] ty #[.slice none 0 0,.int kq ((k:Nat):Int)])).run P w=.ok (.value (.slice g.1 k g.2)) w'∧Sat w0 (.inr (Own g.1 g.2 e sz (([]:List α).map c))::M) w':=by
 obtain⟨hu,i,z,hi,hz,hs1,hs2,hs3⟩:=Va hT
 have gn:0<sz:=aL hsz
 have hr:=Lib.run_append_grow_zeros (P:=P) w t tn ty e i z kq kn hu htn hi hz none 0 0 [] (run_firstCells_none w.drew i.size 0 0 0) k h0 (by rw[hs1];exact gn) (by omega) (by omega) (by rw[hs2];omega)
  (growslice_fits (by omega) (by rw[hs2,bB];omega))
 simp only[bB] at hr
 have hge:=grownCap_ge w k 0 e
 have hcm:=grownCap_le_maxLen w k 0 e (by simp only[maxLen];omega)
 refine⟨(some ⟨w.heap.size,0,none⟩,grownCap w k 0 e),_,Uw hr,hM.push (((Below.refl _ w).drew).alloc (aR _) _) _ ?_ ?_⟩
 ·refine .inr ⟨_,_,rfl,by omega,heap_alloc_new w.drew _,aN _,hcm,?_,?_,?_,?_⟩
  ·simp only[Array.size_append,dN,size_zeroCells,hs3,bJ,bB]
   rw[← cP]
   congr 1
   omega
  ·simp[flat]
  ·intro r hr;cases hr
  ·simp
 ·rintro b ⟨_,a,h2,rfl⟩
  simp only[aD] at h2
  subst h2
  exact aR _
end Go.Eng
end
section
namespace Go.Eng
theorem Dm (z:Array Value) (n:Nat):(Builtin.zeroCells z n).toList=flat (List.replicate n z):=by
 rw[← Fj]
 unfold Builtin.zeroCells madeCells
 apply fA
 intro j
 by_cases hj:j<n*z.size
 ·have h0:0<z.size:=by rcases bM z.size with h|h;(rw[h] at hj;omega);exact h
  have gl:=eN j h0
  simp[hj,gl]
 ·rw[dF (by simp;omega)]
theorem ND {α:Type} {c:α→Array Value} (h1:∀ x,(c x).toList.all Value.oneCell'=true) (l:List α):∀ v∈flat (l.map c),v.oneCell'=true:=by
 intro v hv
 simp only[flat,List.map_map,List.mem_flatten,bT] at hv
 obtain⟨r,⟨x,_,rfl⟩,hr⟩:=hv
 exact bC.1 (h1 x) v hr
theorem NE {α:Type} {c:α→Array Value} {P:Program} {w0:Ctx} {M:Mem} {t e sz bytes cap:Nat} {A A1:Option Addr} {l:List α} (x:α) (j k cap1 n ty:Nat) (hT:Uu P t e sz bytes=true)
  (hz:((P.info? e).bind (·.zero)).map Value.cells=some (c x)) (h1:∀ x,(c x).toList.all Value.oneCell'=true) (hj:M[j]?=some (.inr (Own A cap e sz (l.map c)))) (hA:A1=if cap=k then A else A.map (fun a=>a.add (k*sz)))
  (hn:n=l.length-k) (hk:k≤l.length) (w:World) (hM:Sat w0 M w) :
  ∃ (_:Unit) (w':World),(sV (Builtin.clear_ #[t] ty #[.slice A1 n cap1])).run P w=.ok (.value (.tuple #[])) w'∧Sat w0 (M.set j (.inr (Own A cap e sz ((l.take k++List.replicate (l.length-k) x).map c)))) w':=by
 subst hn
 obtain⟨hu,i,zv,hi,hzv,hs1,hs2,hs3⟩:=Va hT
 have hz':zv.cells=c x:=by simpa[hi,hzv] using hz
 have hzero:(zeroValue e).run P w=.ok zv w:=by simp[zeroValue,typeInfo,hi,hzv]
 have hlen:(l.map c).length=l.length:=by simp
 have ho:=hM.own_at j hj
 rcases dP k l.length with hkl|hkl
 ·rcases ho with ⟨_,h0⟩|⟨g,cur,ho⟩
  ·have:l=[]:=by simpa using h0
   subst this;simp at hkl
  ·have hAt:=ho.at_;subst hAt
   have hle:=ho.le;rw[hlen] at hle
   rw[if_neg (by omega)] at hA
   have hA1:A1=some ⟨g,k*sz,none⟩:=by rw[hA,cE,JS]
   obtain⟨m,hm⟩:∃ m,l.length-k=m+1:=⟨l.length-k-1,by omega⟩
   have ja:∀ r∈List.replicate (l.length-k) (c x),r.size=sz:=fun r hr=>by rw[eW hr,← hz',hs3]
   have hzs:(Builtin.zeroCells zv.cells (l.length-k)).toList=flat (List.replicate (l.length-k) (c x)):=by rw[Dm,hz']
   have hfl:(flat (List.replicate (l.length-k) (c x))).length=(l.length-k)*sz:=by rw[Qr _ ja,bL]
   have hsz:=ho.size
   have hlk:k*sz+(l.length-k)*sz=l.length*sz:=by rw[← cP];congr 1;omega
   have hcs:l.length*sz≤cur.size:=by rw[hsz];exact bO _ hle
   have s6:∀ v∈flat (List.replicate (l.length-k) (c x)),v.oneCell'=true:=by
    have:=ND h1 (List.replicate (l.length-k) x)
    rwa [eX] at this
   have hst:=run_storeCells_at P g (k*sz) e (flat (List.replicate (l.length-k) (c x))) 0 cur w ho.heap (by omega) s6
   refine⟨(),w.setRow g (List.take (k*sz+0) cur.toList++flat (List.replicate (l.length-k) (c x))++List.drop (k*sz+0+(flat (List.replicate (l.length-k) (c x))).length) cur.toList).toArray,Uw ?_,
    hM.step hj ⟨rfl,rfl,rfl,by simp[World.setRow],fun k' _ hk'=>setRow_other w g k' _ (fun e=>hk' ⟨ho.pos,_,rfl,e.symm⟩),aR _⟩ ?_ (fun b hb=>.inl hb)⟩
   ·rw[hA1]
    rw[hm] at hst hzs ⊢
    simp[Builtin.clear_,run_underlying hu,hzero,hzs,hst]
   ·refine .inr ⟨g,_,rfl,ho.pos,setRow_heap w g cur _ e _ ho.heap,?_,ho.max,?_,?_,?_,?_⟩
    ·simp;omega
    ·simp only[dN,aI,bG,bU,aX,hfl];omega
    ·have h6:=ho.holds
     rw[hlen] at h6
     have hL:((l.take k++List.replicate (l.length-k) x).map c).length*sz=l.length*sz:=by congr 1;simp;omega
     have hf1:flat ((l.take k++List.replicate (l.length-k) x).map c)=(flat (l.map c)).take (k*sz)++flat (List.replicate (l.length-k) (c x)):=by
      rw[dD,V9,eX,Hw _ _ ho.each,gE]
     rw[hL,hf1,← h6]
     simp only[bI]
     rw[HO _ _ _ _ (by omega) (by rw[aX];omega)]
     rw[cM (by rw[bG,hfl];omega),bS]
    ·intro r hr
     simp only[dD,bD,eX] at hr
     rcases hr with hr|hr
     ·exact ho.each r (by rw[gE] at hr;exact List.mem_of_mem_take hr)
     ·exact ja r hr
    ·have:=ho.short
     simp at this ⊢;omega
 ·have hk0:l.length-k=0:=by omega
  rw[hk0]
  refine⟨(),w,Uw ?_,?_⟩
  ·cases A1 <;> simp[Builtin.clear_,run_underlying hu]
  ·rw[List.replicate_zero,bS,dQ hkl]
   have:M.set j (.inr (Own A cap e sz (l.map c)))=M:=by
    obtain⟨hlt,he⟩:=aK.1 hj
    rw[← he];exact List.set_getElem_self hlt
   rw[this];exact hM
end Go.Eng
end
section
namespace Go.Sky
open Go Go.Eng Go.Proofs
def QI (f:Za) (x:followed):Bool :=
 f.Track.ID==x.f.Track.ID
theorem Ue (f:Za) (a_x:Addr) (x:followed) (w:World) (h_x:Rd w 23 (some a_x) [followed.c x]):Calls Tryz.prog 96 #[Za.v f,.pointer (some a_x)] w (Ret w (.bool (QI f x))):=by
 exact Zo (vs:=[Za.v f,.pointer (some a_x)]) (w:=w) Tryz.func96 rfl Tryz.ntmps96 rfl (Ze (ZH 2 (fun b1=>.p0 b1) (fun b1=>Bk b1 (Za.c f) 107) (fun b1=>{}) (fun b1=>Zc 2 [] [(3,.b false)] {} (Zv (Zc 6 [0] [(6,.i f.Track.ID),(9,.pointer (some a_x))] {} (TL.v (sV (Instr.loadAt 3 (.pointer (some a_x)))) 10 (.i x.f.Track.ID) (fun w hM=>Z3 (off:=0) (.i x.f.Track.ID) (h_x.sat hM) (Jk _) Kr Kr) {} (Zc 9 [] [(3,.b (f.Track.ID==x.f.Track.ID))] {} (Zb rfl (TC.ret (TE.ret [] (.b (f.Track.ID==x.f.Track.ID)) {} (by unfold QI;refine eS (fun z=>(.b z:Value)) ?_;exact rfl)))))))))))
def KJ (c0:followed):List Za→Nat→((Unit) ⊕ (Int))
 | [],_=>.inl ()
 | x::xs,k=>let r1:=QI x c0
  cond r1 (
   .inr (k:Int)) (
   KJ c0 xs (k+1))
def Vg (s:List Za) (c0:followed):Int :=
 Sum.elim (fun _ =>
  (-1)) (fun r=>r) (KJ c0 s 0)
theorem Dn (A_s:Option Addr) (c_s:Nat) (s:List Za) (xl:Addr) (c0:followed) (w:World) (h_s:Rd w 20 A_s (s.map Za.c)) (_hc_s:s.length≤c_s) (w5:Rd w 23 (some xl) [followed.c c0]):Calls Tryz.prog 131 #[.slice A_s s.length c_s,.func (.func 96) #[] #[.pointer (some xl)]] w (Ret w (.int .i64 (Vg s c0))):=by
 have s_s:=h_s.short;rw[aF] at s_s
 refine Zo (vs:=[.slice A_s s.length c_s,.func (.func 96) #[] #[.pointer (some xl)]]) (w:=w) Tryz.func131 rfl Tryz.ntmps131 rfl (Ze (Zc 1 [] [(4,.i 0)] {} (Zz (Ze (Zc 3 [] [(7,.i (s.length:Int)),(8,.i 0)] {} (Zb rfl ?_))))))
 obtain⟨R1,hR⟩:∃ R,R=KJ c0 s 0:=⟨_,rfl⟩
 refine TC.cut (S:=Unit) (fun (_:Unit)=>[]) (fun (_:Unit)=>[]) (fun (_:Unit)=>R1=.inl ()) ?_ ?_
 ·refine TC.block (XB (X:=Nat) (fun k=>[(0,.slice A_s s.length c_s),(1,.func (.func 96) #[] #[.pointer (some xl)]),(7,.i (s.length:Int)),(8,.i (k:Int))]) (fun k=>[]) (fun k=>s.length-k) (fun k=>k≤s.length∧R1=KJ c0 (s.drop k) k) ?_ 0 ⟨aN _,hR⟩ Kr (sb 0))
  rintro k ⟨hk,hI⟩
  refine Ze (Zc 1 [] [(9,.b (decide ((k:Int)<(s.length:Int))))] {} (Zz (TC.cond (decide ((k:Int)<(s.length:Int))) rfl Kr (fun h1=>?_) (fun h1=>?_))))
  ·have hlt:=ltN h1
   obtain⟨x,hx⟩:=elN hlt
   have hd:=drop_at hx
   refine Yg (TC.seq (TC.block (Ze (Zc 2 [] [(5,.i (k:Int))] {} (Zv (Zc 3 [] [(11,.func (.func 96) #[] #[.pointer (some xl)]),(12,.slice A_s s.length c_s),(13,.i (k:Int))] {} (TL.v (sV (Instr.indexAt 161 (.slice A_s s.length c_s) (.i (k:Int)))) 14 (.pointer (some (Ix A_s (k*20)))) (fun w hM=>Zy (h_s.sat hM) (by simp) Kr sd sd) {} (TL.v (sV (Instr.loadAt 107 (.pointer (some (Ix A_s (k*20)))))) 15 (Za.v x) (fun w hM=>Yd (n:=20) (off:=0) (i:=k) (Za.v x) (h_s.sat hM) (ZR hx) Kr Kr Kr) {} (TL.c 16 (QI x c0) (fun r1=>.b r1) (fun w hM=>Ue x xl c0 w (w5.sat hM)) {} (fun r1 hr1=>Zb rfl (TC.cond r1 rfl Kr (fun h2=>?_) (fun h2=>?_))))))))))))
   ·refine Ze (Zc 2 [] [(4,.i (k:Int))] {} (Zb rfl (TC.ret (ZY (Zq (Zq (ZY (Zq (Zq ?_)))))))))
    exact TE.ret [] (.i (k:Int)) {} (by unfold Vg;refine eS (fun z=>(.i z:Value)) ?_;subst hr1;exact Q4 (hR.symm.trans (hI.trans (by rw[hd];exact Zk h2 (rfl)))) rfl)
   ·exact TC.skip (Yr (Z4 (TC.region (Zc 2 [] [(8,.i (w64 ((k:Int)+1)))] {} (Z2 rfl (TE.rw 8 (.i (w64 ((k:Int)+1))) (.i ((k+1:Nat):Int)) Kr (ZT k (by omega)) (Z7 (x:=k) (k+1) ⟨by omega,hI.trans (by subst hr1;rw[hd];exact Zd h2 (rfl))⟩ (mN hlt) Kr (sb 0))))))))
  ·have hd:=QE h1
   refine TC.exit (Yc (Yc (Z1 ?_)))
   exact TE.cut () (hI.trans (by rw[hd];exact rfl)) Kr (sb 0)
 ·intro _ hJ
  exact YZ (Zc 1 [] [(4,.i (-1))] {} (Zb rfl (TC.ret (TE.ret [] (.i (-1)) {} (by unfold Vg;refine eS (fun z=>(.i z:Value)) ?_;exact Q2 (hR.symm.trans hJ) (rfl))))))
def KL (s:List Za) (c0:followed):Bool :=
 let r1:=Vg s c0
 decide (r1≥0)
theorem Hj (A_s:Option Addr) (c_s:Nat) (s:List Za) (xl:Addr) (c0:followed) (w:World) (h_s:Rd w 20 A_s (s.map Za.c)) (py:s.length≤c_s) (w5:Rd w 23 (some xl) [followed.c c0]):Calls Tryz.prog 95 #[.slice A_s s.length c_s,.func (.func 96) #[] #[.pointer (some xl)]] w (Ret w (.bool (KL s c0))):=by
 have s_s:=h_s.short;rw[aF] at s_s
 exact Zo (vs:=[.slice A_s s.length c_s,.func (.func 96) #[] #[.pointer (some xl)]]) (w:=w) Tryz.func95 rfl Tryz.ntmps95 rfl (Ze (Zc 1 [] [(4,.b false)] {} (Zv (Zc 2 [] [(5,.slice A_s s.length c_s),(6,.func (.func 96) #[] #[.pointer (some xl)])] {} (TL.c 7 (Vg s c0) (fun r1=>.i r1) (fun w hM=>Dn A_s c_s s xl c0 w (h_s.sat hM) py (w5.sat hM)) {} (fun r1 hr1=>Zc 5 [] [(4,.b (decide (r1≥0)))] {} (Zb rfl (TC.ret (TE.ret [] (.b (decide (r1≥0))) {} (by unfold KL;refine eS (fun z=>(.b z:Value)) ?_;subst hr1;exact rfl))))))))))
def ZG (x:followed) (x_2:Int) (x_3:List Za):Bool :=
 cond (x.f.Track.Time==x_2) (
  let r1:=KL x_3 x
  !r1) (
  false)
theorem KE (x:followed) (jn:Addr) (x_2:Int) (vn:Addr) (A_x_3:Option Addr) (kx:Nat) (x_3:List Za) (w:World) (yu:Rd w 1 (some jn) [ic x_2]) (pj:Rd w 1 (some vn) [Sl.c (⟨A_x_3,kx,x_3⟩:Sl Za)]) (yz:(⟨A_x_3,kx,x_3⟩:Sl Za).rd w 20 Za.c):Calls Tryz.prog 94 #[followed.v x,.pointer (some jn),.pointer (some vn)] w (Ret w (.bool (ZG x x_2 x_3))):=by
 refine Zo (vs:=[followed.v x,.pointer (some jn),.pointer (some vn)]) (w:=w) Tryz.func94 rfl Tryz.ntmps94 rfl (Ze (ZH 3 (fun b1=>.p0 b1) (fun b1=>Bk b1 (followed.c x) 111) (fun b1=>{}) (fun b1=>Zc 2 [] [(4,.b false)] {} (Zv (Zc 4 [0] [(8,.i x.f.Track.Time)] {} (TL.v (sV (Instr.loadAt 3 (.pointer (some jn)))) 9 (.i x_2) (fun w hM=>Z3 (off:=0) (.i x_2) (yu.sat hM) (Jk _) Kr Kr) {} (Zc 7 [] [(11,.b (x.f.Track.Time==x_2))] {} (Yo 11 (x.f.Track.Time==x_2) Kr (fun h1=>?_) (fun h1=>?_)))))))))
 ·exact TL.v (sV (Instr.loadAt 161 (.pointer (some vn)))) 12 (.slice A_x_3 x_3.length kx) (fun w hM=>Z3 (off:=0) (.slice A_x_3 x_3.length kx) (pj.sat hM) (Jk _) Kr Kr) {} (Zc 9 [] [(13,.func (.func 96) #[] #[.p0 b1])] {} (TL.c 14 (KL x_3 x) (fun r1=>.b r1) (fun w hM=>Hj A_x_3 kx x_3 ⟨b1,0,none⟩ x w (yz.rd.sat hM) yz.le (Rd.lit hM 0 _ rfl Kr Kr Kr)) {} (fun r1 hr1=>Zc 13 [] [(4,.b (!r1))] {} (Zb rfl (TC.ret (TE.ret [] (.b (!r1)) {} (by unfold ZG;refine eS (fun z=>(.b z:Value)) ?_;subst hr1;exact Zk h1 (rfl))))))))
 ·exact Zc 13 [] [(4,.b false)] {} (Zb rfl (TC.ret (TE.ret [] (.b false) {} (by unfold ZG;refine eS (fun z=>(.b z:Value)) ?_;exact Zd h1 (rfl)))))
def X2 (c0:Int) (c1:List Za):List followed→Nat→((Unit) ⊕ (Int))
 | [],_=>.inl ()
 | x::xs,k=>let r1:=ZG x c0 c1
  cond r1 (
   .inr (k:Int)) (
   X2 c0 c1 xs (k+1))
def QP (s:List followed) (c0:Int) (c1:List Za):Int :=
 Sum.elim (fun _ =>
  (-1)) (fun r=>r) (X2 c0 c1 s 0)
theorem HF (A_s:Option Addr) (c_s:Nat) (s:List followed) (xl:Addr) (c0:Int) (kh:Addr) (A_c1:Option Addr) (vh:Nat) (c1:List Za) (w:World) (h_s:Rd w 23 A_s (s.map followed.c)) (_hc_s:s.length≤c_s) (w5:Rd w 1 (some xl) [ic c0]) (fm:Rd w 1 (some kh) [Sl.c (⟨A_c1,vh,c1⟩:Sl Za)]) (nh:(⟨A_c1,vh,c1⟩:Sl Za).rd w 20 Za.c):Calls Tryz.prog 130 #[.slice A_s s.length c_s,.func (.func 94) #[] #[.pointer (some xl),.pointer (some kh)]] w (Ret w (.int .i64 (QP s c0 c1))):=by
 have s_s:=h_s.short;rw[aF] at s_s
 refine Zo (vs:=[.slice A_s s.length c_s,.func (.func 94) #[] #[.pointer (some xl),.pointer (some kh)]]) (w:=w) Tryz.func130 rfl Tryz.ntmps130 rfl (Ze (Zc 1 [] [(4,.i 0)] {} (Zz (Ze (Zc 3 [] [(7,.i (s.length:Int)),(8,.i 0)] {} (Zb rfl ?_))))))
 obtain⟨R1,hR⟩:∃ R,R=X2 c0 c1 s 0:=⟨_,rfl⟩
 refine TC.cut (S:=Unit) (fun (_:Unit)=>[]) (fun (_:Unit)=>[]) (fun (_:Unit)=>R1=.inl ()) ?_ ?_
 ·refine TC.block (XB (X:=Nat) (fun k=>[(0,.slice A_s s.length c_s),(1,.func (.func 94) #[] #[.pointer (some xl),.pointer (some kh)]),(7,.i (s.length:Int)),(8,.i (k:Int))]) (fun k=>[]) (fun k=>s.length-k) (fun k=>k≤s.length∧R1=X2 c0 c1 (s.drop k) k) ?_ 0 ⟨aN _,hR⟩ Kr (sb 0))
  rintro k ⟨hk,hI⟩
  refine Ze (Zc 1 [] [(9,.b (decide ((k:Int)<(s.length:Int))))] {} (Zz (TC.cond (decide ((k:Int)<(s.length:Int))) rfl Kr (fun h1=>?_) (fun h1=>?_))))
  ·have hlt:=ltN h1
   obtain⟨x,hx⟩:=elN hlt
   have hd:=drop_at hx
   refine Yg (TC.seq (TC.block (Ze (Zc 2 [] [(5,.i (k:Int))] {} (Zv (Zc 3 [] [(11,.func (.func 94) #[] #[.pointer (some xl),.pointer (some kh)]),(12,.slice A_s s.length c_s),(13,.i (k:Int))] {} (TL.v (sV (Instr.indexAt 102 (.slice A_s s.length c_s) (.i (k:Int)))) 14 (.pointer (some (Ix A_s (k*23)))) (fun w hM=>Zy (h_s.sat hM) (by simp) Kr sd sd) {} (TL.v (sV (Instr.loadAt 111 (.pointer (some (Ix A_s (k*23)))))) 15 (followed.v x) (fun w hM=>Yd (n:=23) (off:=0) (i:=k) (followed.v x) (h_s.sat hM) (ZR hx) Kr Kr Kr) {} (TL.c 16 (ZG x c0 c1) (fun r1=>.b r1) (fun w hM=>KE x xl c0 kh A_c1 vh c1 w (w5.sat hM) (fm.sat hM) (nh.sat hM)) {} (fun r1 hr1=>Zb rfl (TC.cond r1 rfl Kr (fun h2=>?_) (fun h2=>?_))))))))))))
   ·refine Ze (Zc 2 [] [(4,.i (k:Int))] {} (Zb rfl (TC.ret (ZY (Zq (Zq (ZY (Zq (Zq ?_)))))))))
    exact TE.ret [] (.i (k:Int)) {} (by unfold QP;refine eS (fun z=>(.i z:Value)) ?_;subst hr1;exact Q4 (hR.symm.trans (hI.trans (by rw[hd];exact Zk h2 (rfl)))) rfl)
   ·exact TC.skip (Yr (Z4 (TC.region (Zc 2 [] [(8,.i (w64 ((k:Int)+1)))] {} (Z2 rfl (TE.rw 8 (.i (w64 ((k:Int)+1))) (.i ((k+1:Nat):Int)) Kr (ZT k (by omega)) (Z7 (x:=k) (k+1) ⟨by omega,hI.trans (by subst hr1;rw[hd];exact Zd h2 (rfl))⟩ (mN hlt) Kr (sb 0))))))))
  ·have hd:=QE h1
   refine TC.exit (Yc (Yc (Z1 ?_)))
   exact TE.cut () (hI.trans (by rw[hd];exact rfl)) Kr (sb 0)
 ·intro _ hJ
  exact YZ (Zc 1 [] [(4,.i (-1))] {} (Zb rfl (TC.ret (TE.ret [] (.i (-1)) {} (by unfold QP;refine eS (fun z=>(.i z:Value)) ?_;exact Q2 (hR.symm.trans hJ) (rfl))))))
def Qp (c0:Int) (c1:List Za) (r1:Int):Nat→Nat→Int→(List followed)→(Int×List followed)
 | 0,_,i,s_2=>(i,s_2)
 | m+1,k,i,s_2=>let r2:=ZG (s_2[((r1+1)+(k:Int)).toNat]?.getD followed.zero) c0 c1
  cond (!r2) (
   Qp c0 c1 r1 m (k+1) (w64 (i+1)) (s_2.set i.toNat (s_2[((r1+1)+(k:Int)).toNat]?.getD followed.zero))) (
   Qp c0 c1 r1 m (k+1) i s_2)
def XQ (s:List followed) (c0:Int) (c1:List Za):(List followed) :=
 let r1:=QP s c0 c1
 cond (r1==(-1)) (
  s) (
  Xq (Qp c0 c1 r1 (((s.length:Int)-(r1+1)).toNat) 0 r1 s) (fun (i_2,s_3) =>
   ((s_3.take i_2.toNat++List.replicate (s_3.length-i_2.toNat) followed.zero).take i_2.toNat)))
theorem CQ (c0:Int) (c1:List Za):∀ (l:List followed) (k:Nat),X2 c0 c1 l k=.inl ()∨∃ j:Nat,X2 c0 c1 l k=.inr (j:Int)∧j<k+l.length
 | [],k=>.inl rfl
 | x::xs,k=>by
  unfold X2
  simp only
  cases ZG x c0 c1 with
  | true=>exact .inr ⟨k,rfl,by simp⟩
  | false =>
   rcases CQ c0 c1 xs (k+1) with h|⟨j,h,hj⟩
   ·exact .inl h
   ·exact .inr ⟨j,h,by simp only[aG];omega⟩
theorem Xt {l:List followed} {c0:Int} {c1:List Za} {r:Int} (h:QP l c0 c1=r) (h1:(r==(-1))=false):0≤r∧r<(l.length:Int):=by
 subst h
 unfold QP at *
 rcases CQ c0 c1 l 0 with h2|⟨j,h2,hj⟩
 ·rw[h2] at h1;cases h1
 ·rw[h2];show 0≤(j:Int)∧(j:Int)<_;omega
theorem Hk (A_s:Option Addr) (c_s:Nat) (s:List followed) (wa:Nat) (c0:Int) (wb:Nat) (A_c1:Option Addr) (vh:Nat) (c1:List Za) (w:World) (hM:Sat ⟨w,XS [.inr (Own A_s c_s 111 23 (s.map followed.c)),.inl (wa,.cells #[.int .i64 c0] 3 (0,0)),.inl (wb,.cells #[.slice A_c1 c1.length vh] 161 (0,0)),.inr (Own A_c1 vh 107 20 (c1.map Za.c))]⟩ [.inr (Own A_s c_s 111 23 (s.map followed.c)),.inl (wa,.cells #[.int .i64 c0] 3 (0,0)),.inl (wb,.cells #[.slice A_c1 c1.length vh] 161 (0,0)),.inr (Own A_c1 vh 107 20 (c1.map Za.c))] w):Calls Tryz.prog 93 #[.slice A_s s.length c_s,.func (.func 94) #[] #[.pointer (some ⟨wa,0,none⟩),.pointer (some ⟨wb,0,none⟩)]] w (JD (Γ:=Unit) ⟨w,XS [.inr (Own A_s c_s 111 23 (s.map followed.c)),.inl (wa,.cells #[.int .i64 c0] 3 (0,0)),.inl (wb,.cells #[.slice A_c1 c1.length vh] 161 (0,0)),.inr (Own A_c1 vh 107 20 (c1.map Za.c))]⟩ (fun _=>.slice A_s ((XQ s c0 c1).length) c_s) (fun _=>[.inr (Own A_s c_s 111 23 ((XQ s c0 c1).map followed.c)),.inl (wa,.cells #[.int .i64 c0] 3 (0,0)),.inl (wb,.cells #[.slice A_c1 c1.length vh] 161 (0,0)),.inr (Own A_c1 vh 107 20 (c1.map Za.c))])):=by
 refine YW (w0:=⟨w,XS [Ow A_s c_s 111 23 (s.map followed.c),Bk wa #[.i c0] 3,Bk wb #[.slice A_c1 c1.length vh] 161,Ow A_c1 vh 107 20 (c1.map Za.c)]⟩) (vs:=[.slice A_s s.length c_s,.func (.func 94) #[] #[.p0 wa,.p0 wb]]) hM Tryz.func93 rfl Tryz.ntmps93 rfl (Gn (fun w hM=>hM.short_at 0 rfl) (fun s_s=>Gn (fun w hM=>hM.short_at 3 rfl) (fun om=>Ze (Zc 1 [] [(4,.slice none 0 0)] {} (Zv (Zc 2 [] [(8,.slice A_s s.length c_s),(9,.func (.func 94) #[] #[.p0 wa,.p0 wb])] {} (TL.c 10 (QP s c0 c1) (fun r1=>.i r1) (fun w hM=>HF A_s c_s s ⟨wa,0,none⟩ c0 ⟨wb,0,none⟩ A_c1 vh c1 w (hM.rd_at 0 rfl) (hM.le_at 0 rfl) (Rd.lit hM 1 _ rfl Kr Kr Kr) (Rd.lit hM 2 _ rfl Kr Kr Kr) ⟨(hM.rd_at 3 rfl),(hM.le_at 3 rfl)⟩) {} (fun r1 hr1=>Zc 4 [] [(5,.i r1)] {} (Zz (Ze (Zc 2 [] [(12,.b (r1==(-1)))] {} (Zb rfl (TC.cond (r1==(-1)) rfl Kr (fun h1=>?_) (fun h1=>?_))))))))))))))
 ·refine Ze (Zc 2 [] [(4,.slice A_s s.length c_s)] {} (Zb rfl (TC.ret (Zq ?_))))
  have e:XQ s c0 c1=s:=by subst hr1;unfold XQ;exact Zk h1 (rfl)
  rw[e]
  exact ZN (.inl rfl) () [] (.slice A_s s.length c_s) {} rfl (fun _ hM=>hM.sub (sb 15))
 ·have j4:=(Yh h1)
  refine Yg (TC.seq (Ze (Zc 3 [] [(6,.i (w64 (r1+1)))] {} (Zb rfl ?_))))
  obtain⟨R1,hR⟩:∃ R,R=Qp c0 c1 r1 (((s.length:Int)-(r1+1)).toNat) 0 r1 s:=⟨_,rfl⟩
  refine TC.cut (S:=Int×(List followed)) (fun (i_2,s_3)=>[(0,.slice A_s s_3.length c_s),(5,.i i_2)]) (fun (i_2,s_3)=>[Ow A_s c_s 111 23 (s_3.map followed.c),Bk wa #[.i c0] 3,Bk wb #[.slice A_c1 c1.length vh] 161,Ow A_c1 vh 107 20 (c1.map Za.c)]) (fun (i_2,s_3)=>R1=(i_2,s_3)∧s_3.length=s.length∧(0≤i_2∧i_2≤(s.length:Int))) ?_ ?_
  ·refine TC.block (TC.rw 6 (.i (w64 (r1+1))) (.i ((r1+1)+((0:Nat):Int))) Kr (int_eq (by (try have kx_:=Xt hr1 h1);have kx_:=Xt hr1 h1;first|omega|(rw[Zu (by omega)];omega)|(simp only[Ya];omega))) (XB (X:=Nat×Int×(List followed)) (fun (k,i,s_2)=>[(0,.slice A_s s_2.length c_s),(1,.func (.func 94) #[] #[.p0 wa,.p0 wb]),(5,.i i),(6,.i ((r1+1)+(k:Int)))]) (fun (k,i,s_2)=>[Ow A_s c_s 111 23 (s_2.map followed.c),Bk wa #[.i c0] 3,Bk wb #[.slice A_c1 c1.length vh] 161,Ow A_c1 vh 107 20 (c1.map Za.c)]) (fun (k,i,s_2)=>(((s.length:Int)-(r1+1)).toNat)-k) (fun (k,i,s_2)=>k≤(((s.length:Int)-(r1+1)).toNat)∧R1=Qp c0 c1 r1 ((((s.length:Int)-(r1+1)).toNat)-k) k i s_2∧s_2.length=s.length∧(0≤i∧i≤r1+(k:Int))) ?_ (0,r1,s) ⟨aN _,hR,sz,(by (try have kx_:=Xt hr1 h1);exact sz)⟩ Kr (sb 15)))
   rintro⟨k,i,s_2⟩ ⟨hk,hI,ee,s9⟩
   refine TC.seq (Ze (Zc 4 [] [(19,.b (decide (((r1+1)+(k:Int))<(s_2.length:Int))))] {} (Zb rfl (TC.cond (decide (((r1+1)+(k:Int))<(s_2.length:Int))) rfl Kr (fun h2=>?_) (fun h2=>?_)))))
   ·have hlt:k<(((s.length:Int)-(r1+1)).toNat):=by (try have kx_:=Xt hr1 h1);have p0_:=(Ys h2);have kx_:=Xt hr1 h1;first|omega|(simp only[Ya] at *;omega)
    have hd:(((s.length:Int)-(r1+1)).toNat)-k=((((s.length:Int)-(r1+1)).toNat)-(k+1))+1:=by omega
    have vr:=(Ys h2)
    refine Yg (TC.seq (TC.block (Ze (Zc 2 [] [(22,.slice A_s s_2.length c_s),(23,.i ((r1+1)+(k:Int)))] {} (TL.v (sV (Instr.indexAt 102 (.slice A_s s_2.length c_s) (.i ((r1+1)+(k:Int))))) 24 (.pointer (some ((A_s.getD Y4).add (((r1+1)+(k:Int)).toNat*23)))) (fun w hM=>Zy (hM.rd_at 0 rfl) (by simp) Kr (by (try have kx_:=Xt hr1 h1);exact sd) (by (try have kx_:=Xt hr1 h1);exact sd)) {} (TL.v (sV (Instr.loadAt 111 (.pointer (some ((A_s.getD Y4).add (((r1+1)+(k:Int)).toNat*23)))))) 25 (followed.v (s_2[((r1+1)+(k:Int)).toNat]?.getD followed.zero)) (fun w hM=>Yd (n:=23) (off:=0) (i:=((r1+1)+(k:Int)).toNat) (followed.v (s_2[((r1+1)+(k:Int)).toNat]?.getD followed.zero)) (hM.rd_at 0 rfl) (ZR (getD_at _ _ followed.zero (by (try have kx_:=Xt hr1 h1);exact sd))) Kr Kr Kr) {} (ZH 7 (fun b1=>.p0 b1) (fun b1=>Bk b1 (followed.c followed.zero) 111) (fun b1=>{}) (fun b1=>Ym 0 (Bk b1 (followed.c (s_2[((r1+1)+(k:Int)).toNat]?.getD followed.zero)) 111) (fun _=>{}) (Zv (Zc 2 [0] [(26,.func (.func 94) #[] #[.p0 wa,.p0 wb]),(27,followed.v (s_2[((r1+1)+(k:Int)).toNat]?.getD followed.zero))] {} (TL.c 28 (ZG (s_2[((r1+1)+(k:Int)).toNat]?.getD followed.zero) c0 c1) (fun r2=>.b r2) (fun w hM=>KE (s_2[((r1+1)+(k:Int)).toNat]?.getD followed.zero) ⟨wa,0,none⟩ c0 ⟨wb,0,none⟩ A_c1 vh c1 w (Rd.lit hM 2 _ rfl Kr Kr Kr) (Rd.lit hM 3 _ rfl Kr Kr Kr) ⟨(hM.rd_at 4 rfl),(hM.le_at 4 rfl)⟩) {} (fun r2 hr2=>Zc 4 [] [(29,.b (!r2))] {} (Zb rfl (TC.cond (!r2) rfl Kr (fun h3=>?_) (fun h3=>?_)))))))))))))))
    ·exact Ze (Zc 3 [0] [(30,.slice A_s s_2.length c_s),(31,.i i),(32,followed.v (s_2[((r1+1)+(k:Int)).toNat]?.getD followed.zero))] {} (TL.v (sV (Instr.indexAt 102 (.slice A_s s_2.length c_s) (.i i))) 33 (.pointer (some (Ix A_s (i.toNat*23)))) (fun w hM=>Zy (hM.rd_at 1 rfl) (by simp) Kr (by (try have kx_:=Xt hr1 h1);exact sd) (by (try have kx_:=Xt hr1 h1);exact sd)) {} (Uk (Γ:=Unit) (sU (Instr.storeAt 111 (.pointer (some ((Ix A_s (i.toNat*23)).add 0))) (followed.v (s_2[((r1+1)+(k:Int)).toNat]?.getD followed.zero)))) 1 (Ow A_s c_s 111 23 ((s_2.set i.toNat (s_2[((r1+1)+(k:Int)).toNat]?.getD followed.zero)).map followed.c)) (X5 (n:=23) (off:=0) (followed.v (s_2[((r1+1)+(k:Int)).toNat]?.getD followed.zero)) 1 ((s_2.set i.toNat (s_2[((r1+1)+(k:Int)).toNat]?.getD followed.zero)).map followed.c) rfl (ZR (getD_at _ _ followed.zero (by (try have kx_:=Xt hr1 h1);exact sd))) Kr Kr Kr Kr (Qn Kr)) Kr (TL.rw 0 (.slice A_s s_2.length c_s) (.slice A_s ((s_2.set i.toNat (s_2[((r1+1)+(k:Int)).toNat]?.getD followed.zero)).length) c_s) Kr (by simp only[aQ]) (Zb rfl (TC.region (Zc 3 [] [(5,.i (w64 (i+1)))] {} (Z2 rfl (Yr (Z4 (TC.region (Zc 3 [] [(6,.i (w64 (((r1+1)+(k:Int))+1)))] {} (Z2 rfl (TE.rw 6 (.i (w64 (((r1+1)+(k:Int))+1))) (.i ((r1+1)+((k+1:Nat):Int))) Kr (int_eq (by (try have kx_:=Xt hr1 h1);have kx_:=Xt hr1 h1;first|omega|(rw[Zu (by omega)];omega)|(simp only[Ya] at *;omega))) (Z7 (x:=(k,i,s_2)) (k+1,w64 (i+1),(s_2.set i.toNat (s_2[((r1+1)+(k:Int)).toNat]?.getD followed.zero))) ⟨by omega,hI.trans (by subst hr1 hr2;rw[hd];exact Zk h3 (rfl)),(by (try have kx_:=Xt hr1 h1);exact sl),(by (try have kx_:=Xt hr1 h1);exact sl)⟩ (mN hlt) Kr (sb 30))))))))))))))))
    ·exact TC.skip (Yr (Z4 (TC.region (Zc 3 [] [(6,.i (w64 (((r1+1)+(k:Int))+1)))] {} (Z2 rfl (TE.rw 6 (.i (w64 (((r1+1)+(k:Int))+1))) (.i ((r1+1)+((k+1:Nat):Int))) Kr (int_eq (by (try have kx_:=Xt hr1 h1);have kx_:=Xt hr1 h1;first|omega|(rw[Zu (by omega)];omega)|(simp only[Ya] at *;omega))) (Z7 (x:=(k,i,s_2)) (k+1,i,s_2) ⟨by omega,hI.trans (by subst hr1 hr2;rw[hd];exact Zd h3 (rfl)),(by (try have kx_:=Xt hr1 h1);exact sl),(by (try have kx_:=Xt hr1 h1);exact sl)⟩ (mN hlt) Kr (sb 30))))))))
   ·have hd:(((s.length:Int)-(r1+1)).toNat)-k=0:=by (try have kx_:=Xt hr1 h1);have p0_:=(Zt h2);have kx_:=Xt hr1 h1;first|omega|(simp only[Ya] at *;omega)
    refine TC.exit (Yc (Yc (Z1 ?_)))
    exact TE.cut (i,s_2) (⟨hI.trans (by subst hr1;rw[hd];exact rfl),(by (try have kx_:=Xt hr1 h1);exact sl),(by (try have kx_:=Xt hr1 h1);exact sl)⟩) Kr (sb 15)
  ·rintro⟨i_2,s_3⟩ ⟨hJ,ef,ky⟩
   refine YZ (Zc 2 [] [(36,.slice A_s s_3.length c_s),(37,.i i_2)] {} ?_)
   obtain⟨A1,hA1⟩:∃ A0_,A0_=(if c_s=i_2.toNat then A_s else A_s.map (fun a=>a.add (i_2.toNat*23))):=⟨_,rfl⟩
   refine TL.v (sV (Instr.sliceAt 102 (.slice A_s s_3.length c_s) (some (.i i_2)) none none)) 38 (.slice A1 ((s_3.drop i_2.toNat).length) (c_s-i_2.toNat)) (fun w hM=>(VU i_2.toNat s_3.length Kr (.inr ⟨_,_,rfl,(by (try have kx_:=Xt hr1 h1);exact sd),rfl⟩) (.inl ⟨rfl,rfl⟩) (by (try have kx_:=Xt hr1 h1);exact sd) (bH (aR _) (hM.le_at 0 rfl))).trans (by rw[hA1];(try have kx_:=Xt hr1 h1);congr 3;simp only[bU])) {} ?_
   have ni:(s_3.take i_2.toNat++List.replicate (s_3.length-i_2.toNat) followed.zero).length=s_3.length:=by have k_:i_2.toNat≤s_3.length:=(by (try have kx_:=Xt hr1 h1);exact sd);simp only[aI,bG,bL];omega
   refine GK (Γ:=Unit) (sV (Builtin.clear_ #[102] 0 #[.slice A1 ((s_3.drop i_2.toNat).length) (c_s-i_2.toNat)])) none (fun _=>.tuple #[]) (fun _=>[Ow A_s c_s 111 23 ((s_3.take i_2.toNat++List.replicate (s_3.length-i_2.toNat) followed.zero).map followed.c),Bk wa #[.i c0] 3,Bk wb #[.slice A_c1 c1.length vh] 161,Ow A_c1 vh 107 20 (c1.map Za.c)]) (fun _=>[(0,.slice A_s s_3.length c_s),(5,.i i_2)]) (by exact NE (c:=followed.c) (bytes:=184) (sz:=23) followed.zero 0 i_2.toNat ((c_s-i_2.toNat)) ((s_3.drop i_2.toNat).length) 0 Kr Kr followed.one rfl hA1 (by simp only[bU]) (by (try have kx_:=Xt hr1 h1);exact sd)) Kr (fun _=>Kr) (fun _=>TL.rw 0 (.slice A_s s_3.length c_s) (.slice A_s ((s_3.take i_2.toNat++List.replicate (s_3.length-i_2.toNat) followed.zero).length) c_s) Kr (by rw[ni]) (Zv (Zc 2 [] [(39,.slice A_s ((s_3.take i_2.toNat++List.replicate (s_3.length-i_2.toNat) followed.zero).length) c_s),(40,.i i_2)] {} ?_)))
   obtain⟨A1_2,dz⟩:∃ A0_,A0_=(if c_s=0 then A_s else A_s.map (fun a=>a.add (0*23))):=⟨_,rfl⟩
   refine TL.v (sV (Instr.sliceAt 102 (.slice A_s ((s_3.take i_2.toNat++List.replicate (s_3.length-i_2.toNat) followed.zero).length) c_s) none (some (.i i_2)) none)) 41 (.slice A1_2 (((s_3.take i_2.toNat++List.replicate (s_3.length-i_2.toNat) followed.zero).take i_2.toNat).length) (c_s-0)) (fun w hM=>(VU 0 i_2.toNat Kr (.inl ⟨rfl,rfl⟩) (.inr ⟨_,_,rfl,(by (try have kx_:=Xt hr1 h1);exact sd),rfl⟩) (by (try have kx_:=Xt hr1 h1);exact sd) (bH (by (try have kx_:=Xt hr1 h1);exact sd) (hM.le_at 0 rfl))).trans (by rw[dz];(try have kx_:=Xt hr1 h1);congr 3;first|(simp only[bG] <;> omega)|(simp only[bG] at * <;> omega))) {} (Zc 4 [] [(4,.slice A1_2 (((s_3.take i_2.toNat++List.replicate (s_3.length-i_2.toNat) followed.zero).take i_2.toNat).length) (c_s-0))] {} (Zb rfl (TC.ret (Yp [Ow A_s c_s 111 23 (((s_3.take i_2.toNat++List.replicate (s_3.length-i_2.toNat) followed.zero).take i_2.toNat).map followed.c),Bk wa #[.i c0] 3,Bk wb #[.slice A_c1 c1.length vh] 161,Ow A_c1 vh 107 20 (c1.map Za.c)] (fun _ hM=>by have h_:=hM.takerow i_2.toNat 0 rfl (by simp only[aF];exact(by (try have kx_:=Xt hr1 h1);exact sg));rw[← gE] at h_;exact h_) ?_))))
   have e:XQ s c0 c1=((s_3.take i_2.toNat++List.replicate (s_3.length-i_2.toNat) followed.zero).take i_2.toNat):=by subst hr1;unfold XQ;exact Zd h1 (Y5 (hR.symm.trans hJ) (rfl))
   rw[e]
   exact ZN (.inl rfl) () [] (.slice A1_2 (((s_3.take i_2.toNat++List.replicate (s_3.length-i_2.toNat) followed.zero).take i_2.toNat).length) (c_s-0)) {} (by rw[dz,AQ];rfl) (fun _ hM=>hM.sub (sb 15))
def Qy (time:Int):List followed→Nat→(List Za)→(List Za)
 | [],_,xs_=>xs_
 | x::xs,k,xs_=>cond (x.f.Track.Time==time) (
   Qy time xs (k+1) (xs_++([x.f]))) (
   Qy time xs (k+1) xs_)
def ZV (t:Zi) (time:Int):Zi :=
 Xq (Qy time t.all 0 ([]:List Za)) (fun qt =>
  let r1:=Qx qt 500
  let r2:=XQ t.all time r1.1
  (⟨t.rules,r2,t.next,t.last⟩:Zi))
theorem Gk (b_t:Nat) (t:Zi) (A_t_all:Option Addr) (qc:Nat) (time:Int) (w:World) (hM:Sat ⟨w,XS [.inl (b_t,.cells (Zi.k t A_t_all qc) 104 (0,0)),.inr (Own A_t_all qc 111 23 (t.all.map followed.c))]⟩ [.inl (b_t,.cells (Zi.k t A_t_all qc) 104 (0,0)),.inr (Own A_t_all qc 111 23 (t.all.map followed.c))] w) (hn:t.all.length≤64):Calls Tryz.prog 53 #[.pointer (some ⟨b_t,0,none⟩),.int .i64 time] w (JD (Γ:=(Option Addr×Nat)) ⟨w,XS [.inl (b_t,.cells (Zi.k t A_t_all qc) 104 (0,0)),.inr (Own A_t_all qc 111 23 (t.all.map followed.c))]⟩ (fun _=>.tuple #[]) (fun g=>[.inl (b_t,.cells (Zi.k (⟨⟨(ZV t time).rules.Need,(ZV t time).rules.Of,(ZV t time).rules.Misses,(ZV t time).rules.Accel,(ZV t time).rules.Place,(ZV t time).rules.Speed⟩,(ZV t time).all,(ZV t time).next,(ZV t time).last⟩:Zi) g.1 g.2) 104 (0,0)),.inr (Own g.1 g.2 111 23 (((ZV t time).all).map followed.c))])):=by
 refine YW (w0:=⟨w,XS [Bk b_t (Zi.k t A_t_all qc) 104,Ow A_t_all qc 111 23 (t.all.map followed.c)]⟩) (vs:=[.p0 b_t,.i time]) hM Tryz.func53 rfl Tryz.ntmps53 rfl (Gn (fun w hM=>hM.short_at 1 rfl) (fun yo=>Ze (ZH 3 (fun b1=>.p0 b1) (fun b1=>Bk b1 #[.i time] 3) (fun b1=>{}) (fun b1=>Zv (ZH 4 (fun b2=>.p0 b2) (fun b2=>Bk b2 #[.slice none 0 0] 161) (fun b2=>{}) (fun b2=>Zz (Ze (Zc 6 [2] [(10,.slice A_t_all t.all.length qc),(11,.i (t.all.length:Int)),(12,.i 0)] {} (Zb rfl (QS [Ow none 0 107 20 (([]:List Za).map Za.c),Bk b2 #[.slice none 0 0] 161,Bk b1 #[.i time] 3,Bk b_t (Zi.k t A_t_all qc) 104,Ow A_t_all qc 111 23 (t.all.map followed.c)] (fun _ hM=>hM.emptyrow none 107 20) (QS [Ow none 0 107 20 (([]:List Za).map Za.c),Bk b2 #[.slice none (([]:List Za).length) 0] 161,Bk b1 #[.i time] 3,Bk b_t (Zi.k t A_t_all qc) 104,Ow A_t_all qc 111 23 (t.all.map followed.c)] (fun _ hM=>hM) ?_)))))))))))
 obtain⟨R2,hR⟩:∃ R,R=Qy time t.all 0 ([]:List Za):=⟨_,rfl⟩
 refine TC.cut (S:=(List Za)×(Option Addr)×Nat) (fun (qt,A_xs__2,qu)=>[(0,.p0 b_t),(3,.p0 b1),(4,.p0 b2)]) (fun (qt,A_xs__2,qu)=>[Ow A_xs__2 qu 107 20 (qt.map Za.c),Bk b2 #[.slice A_xs__2 qt.length qu] 161,Bk b1 #[.i time] 3,Bk b_t (Zi.k t A_t_all qc) 104,Ow A_t_all qc 111 23 (t.all.map followed.c)]) (fun (qt,A_xs__2,qu)=>R2=qt∧qt.length≤t.all.length) ?_ ?_
 ·refine TC.block (XB (X:=Nat×(List Za)×(Option Addr)×Nat) (fun (k,xs_,A_xs_,qh)=>[(0,.p0 b_t),(3,.p0 b1),(4,.p0 b2),(10,.slice A_t_all t.all.length qc),(11,.i (t.all.length:Int)),(12,.i (k:Int))]) (fun (k,xs_,A_xs_,qh)=>[Ow A_xs_ qh 107 20 (xs_.map Za.c),Bk b2 #[.slice A_xs_ xs_.length qh] 161,Bk b1 #[.i time] 3,Bk b_t (Zi.k t A_t_all qc) 104,Ow A_t_all qc 111 23 (t.all.map followed.c)]) (fun (k,xs_,A_xs_,qh)=>t.all.length-k) (fun (k,xs_,A_xs_,qh)=>k≤t.all.length∧R2=Qy time (t.all.drop k) k xs_∧xs_.length≤k) ?_ (0,([]:List Za),none,0) ⟨aN _,hR,sz⟩ Kr (sb 31))
  rintro⟨k,xs_,A_xs_,qh⟩ ⟨hk,hI,p6⟩
  refine Ze (Zc 1 [] [(13,.b (decide ((k:Int)<(t.all.length:Int))))] {} (Zz (TC.cond (decide ((k:Int)<(t.all.length:Int))) rfl Kr (fun h1=>?_) (fun h1=>?_))))
  ·have hlt:=ltN h1
   obtain⟨x,hx⟩:=elN hlt
   have hd:=drop_at hx
   refine Yg (TC.seq (TC.block (Ze (TL.v (sV (Instr.indexAt 102 (.slice A_t_all t.all.length qc) (.i (k:Int)))) 14 (.pointer (some (Ix A_t_all (k*23)))) (fun w hM=>Zy (hM.rd_at 4 rfl) (by simp) Kr sd sd) {} (TL.v (sV (Instr.loadAt 111 (.pointer (some (Ix A_t_all (k*23)))))) 15 (followed.v x) (fun w hM=>Yd (n:=23) (off:=0) (i:=k) (followed.v x) (hM.rd_at 4 rfl) (ZR hx) Kr Kr Kr) {} (ZH 6 (fun b3=>.p0 b3) (fun b3=>Bk b3 (followed.c followed.zero) 111) (fun b3=>{}) (fun b3=>Ym 0 (Bk b3 (followed.c x) 111) (fun _=>{}) (Zv (Zc 6 [0,3] [(21,.b (x.f.Track.Time==time))] {} (Zb rfl (TC.cond (x.f.Track.Time==time) rfl Kr (fun h2=>?_) (fun h2=>?_))))))))))))
   ·have vr:=(Xf h2)
    refine TC.region (Zc 3 [2,0] [(22,.slice A_xs_ xs_.length qh),(24,Za.v x.f)] {} (ZH 25 (fun b4=>.slice (Pa b4) 1 1) (fun b4=>Bk b4 (Za.c x.f) 107) (fun b4=>{}) (fun b4=>TL.os (Γ:=AN) (sV (Builtin.append_ #[161,161] 161 #[.slice A_xs_ xs_.length qh,.slice (Pa b4) 1 1])) 26 (fun g=>.slice g.1 (xs_++([x.f])).length g.2) 2 (fun g=>Ow g.1 g.2 107 20 ((xs_++([x.f])).map Za.c)) (Jc (bytes:=160) 161 2 ([x.f]) Kr rfl rfl Za.one rfl (fun w hM=>(Rd.lit hM 0 _ rfl Kr Kr Kr)) rfl sa) {} ?_)))
    rintro⟨A,c⟩
    exact Ym 3 (Bk b2 #[.slice A ((xs_++([x.f])).length) c] 161) (fun _=>{}) (Z2 rfl (Yr (Z4 (TC.region (Zc 2 [] [(12,.i (w64 ((k:Int)+1)))] {} (Z2 rfl (TE.rw 12 (.i (w64 ((k:Int)+1))) (.i ((k+1:Nat):Int)) Kr (ZT k (by omega)) (Z7 (x:=(k,xs_,A_xs_,qh)) (k+1,(xs_++([x.f])),A,c) ⟨by omega,hI.trans (by rw[hd];exact Zk h2 (rfl)),sl⟩ (mN hlt) Kr (sb 124)))))))))
   ·have vr:=(Yh h2)
    exact TC.skip (Yr (Z4 (TC.region (Zc 2 [] [(12,.i (w64 ((k:Int)+1)))] {} (Z2 rfl (TE.rw 12 (.i (w64 ((k:Int)+1))) (.i ((k+1:Nat):Int)) Kr (ZT k (by omega)) (Z7 (x:=(k,xs_,A_xs_,qh)) (k+1,xs_,A_xs_,qh) ⟨by omega,hI.trans (by rw[hd];exact Zd h2 (rfl)),sl⟩ (mN hlt) Kr (sb 62))))))))
  ·have hd:=QE h1
   refine TC.exit (Yc (Yc (Z1 ?_)))
   exact TE.cut (xs_,A_xs_,qh) (⟨hI.trans (by rw[hd];exact rfl),sl⟩) Kr (sb 31)
 ·rintro⟨qt,A_xs__2,qu⟩ ⟨hJ,y1⟩
  refine YZ (Zc 1 [1] [(29,.slice A_xs__2 qt.length qu)] {} (UR (Γ:=AN) 30 (Qx qt 500) (fun r1 g=>.tuple #[.slice g.1 r1.1.length g.2,.i r1.2]) (fun r1 g=>[Ow g.1 g.2 107 20 (r1.1.map Za.c)]) (fun w hM=>DV A_xs__2 qu qt 500 w (hM.rd_at 0 rfl) (hM.le_at 0 rfl)) {} (fun r1 hr1=>?_)))
  rintro⟨A_2,c_2⟩
  refine Y2 (fun w hM=>hM.short_at 0 rfl) (fun p7=>Zc 5 [] [(31,.slice A_2 r1.1.length c_2)] {} (Ym 2 (Bk b2 #[.slice A_2 r1.1.length c_2] 161) (fun _=>{}) (Zb rfl (TC.region (Zc 6 [4] [(33,.p0 b_t),(37,.slice A_t_all t.all.length qc),(38,.func (.func 94) #[] #[.p0 b1,.p0 b2])] {} (YS [Ow A_t_all qc 111 23 (t.all.map followed.c),Bk b1 #[.i time] 3,Bk b2 #[.slice A_2 r1.1.length c_2] 161,Ow A_2 c_2 107 20 (r1.1.map Za.c),Ow A_xs__2 qu 107 20 (qt.map Za.c),Bk b_t (Zi.k t A_t_all qc) 104] (fun _ hM=>hM.perm (px [5,3,2,0,1,4])) (FS (Γ:=Unit) 4 39 (XQ t.all time r1.1) (fun r2 _=>.slice A_t_all r2.length qc) (fun r2 _=>[Ow A_t_all qc 111 23 (r2.map followed.c),Bk b1 #[.i time] 3,Bk b2 #[.slice A_2 r1.1.length c_2] 161,Ow A_2 c_2 107 20 (r1.1.map Za.c)]) [Ow A_t_all qc 111 23 (t.all.map followed.c),Bk b1 #[.i time] 3,Bk b2 #[.slice A_2 r1.1.length c_2] 161,Ow A_2 c_2 107 20 (r1.1.map Za.c)] Kr (fun w hM=>Hk A_t_all qc t.all b1 time b2 A_2 c_2 r1.1 w hM) {} (fun r2 hr2=>?_))))))))
  intro _
  refine Zc 9 [] [(41,.pt b_t 6)] {} (Ym 5 (Bk b_t (Zi.k (⟨t.rules,r2,t.next,t.last⟩:Zi) A_t_all qc) 104) (fun _=>{}) (Z2 rfl ?_))
  have e:ZV t time=(⟨t.rules,r2,t.next,t.last⟩:Zi):=by subst hr1 hr2;unfold ZV;exact Y5 (hR.symm.trans hJ) (rfl)
  refine Yp [Bk b_t (Zi.k (⟨t.rules,r2,t.next,t.last⟩:Zi) A_t_all qc) 104,Ow A_t_all qc 111 23 (r2.map followed.c),Bk b1 #[.i time] 3,Bk b2 #[.slice A_2 r1.1.length c_2] 161,Ow A_2 c_2 107 20 (r1.1.map Za.c),Ow A_xs__2 qu 107 20 (qt.map Za.c)] (fun _ hM=>hM.perm (px [5,0,1,2,3,4])) ?_
  rw[e]
  exact ZN (.inr rfl) (A_t_all,qc) [] (.tuple #[]) {} rfl (fun _ hM=>hM.sub (sb 3))
end Go.Sky
end
