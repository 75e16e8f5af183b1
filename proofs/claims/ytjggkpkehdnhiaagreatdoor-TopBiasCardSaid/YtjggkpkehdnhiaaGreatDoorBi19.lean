/- Lemmas toward the given statement (part 19 of 21): Ba IntSort LaysI Median Two Bb. Each theorem states its own conditions; nothing is assumed beyond them. -/
import Derived.Test.YtjggkpkehdnhiaaGreatDoorBi18
import Derived.Test.YtjggkpkehdnhiaaGreatDoorBi02
import Derived.Shelf.Sort.Plain
import Derived.Shelf.Slices.In.SortNone
import Derived.Sort.OwnSortedInts
import Derived.Shelf.Lays
import Derived.Test.YtjggkpkehdnhiaaGreatDoorRows
import Derived.Test.YtjggkpkehdnhiaaGreatDoorBi04
section
namespace Go.Sky
open Go Go.Eng Go.Proofs
def bias_Check (b_:BiasOffset):Int :=
  cond ((((((decide (b_.Range < (-10000))) || (decide (b_.Range > 10000))) || (decide (b_.Azimuth < (-2047)))) || (decide (b_.Azimuth > 2048))) || (decide (b_.Time < (-1000)))) || (decide (b_.Time > 1000))) (
    4) (
    0)
set_option maxRecDepth 100000 in
theorem bias_Check_w (b_:BiasOffset) (w:World):Calls Tryz.prog 93 #[BiasOffset.v b_] w (Ret w (.int .i64 (bias_Check b_))):=by
  refine calls_intro (vs:=[BiasOffset.v b_]) (w:=w) Tryz.func93 rfl Tryz.ntmps93 rfl (TC.sr (TL.nw 1 (fun b1=>.p0 b1) (fun b1=>Bk b1 (BiasOffset.c b_) 104) (fun b1=>{}) (fun b1=>TL.r 2 [] [(2,.i 0)] {} (TL.ns (TC.sr (TL.r 4 [0] [(6,.b (decide (b_.Range < (-10000))))] {} (TL.j 6 (decide (b_.Range < (-10000))) 8 [] [0] (fun β=>[(10,.b (β || (decide (b_.Range > 10000))))]) Kr {} {} (TL.r 9 [] [(11,.b ((decide (b_.Range < (-10000))) || (decide (b_.Range > 10000))))] {} (TL.j 11 ((decide (b_.Range < (-10000))) || (decide (b_.Range > 10000))) 13 [] [0] (fun β=>[(15,.b (β || (decide (b_.Azimuth < (-2047)))))]) Kr {} {} (TL.r 14 [] [(16,.b (((decide (b_.Range < (-10000))) || (decide (b_.Range > 10000))) || (decide (b_.Azimuth < (-2047)))))] {} (TL.j 16 (((decide (b_.Range < (-10000))) || (decide (b_.Range > 10000))) || (decide (b_.Azimuth < (-2047)))) 18 [] [0] (fun β=>[(20,.b (β || (decide (b_.Azimuth > 2048))))]) Kr {} {} (TL.r 19 [] [(21,.b ((((decide (b_.Range < (-10000))) || (decide (b_.Range > 10000))) || (decide (b_.Azimuth < (-2047)))) || (decide (b_.Azimuth > 2048))))] {} (TL.j 21 ((((decide (b_.Range < (-10000))) || (decide (b_.Range > 10000))) || (decide (b_.Azimuth < (-2047)))) || (decide (b_.Azimuth > 2048))) 23 [] [0] (fun β=>[(25,.b (β || (decide (b_.Time < (-1000)))))]) Kr {} {} (TL.r 24 [] [(26,.b (((((decide (b_.Range < (-10000))) || (decide (b_.Range > 10000))) || (decide (b_.Azimuth < (-2047)))) || (decide (b_.Azimuth > 2048))) || (decide (b_.Time < (-1000)))))] {} (TL.j 26 (((((decide (b_.Range < (-10000))) || (decide (b_.Range > 10000))) || (decide (b_.Azimuth < (-2047)))) || (decide (b_.Azimuth > 2048))) || (decide (b_.Time < (-1000)))) 28 [] [0] (fun β=>[(30,.b (β || (decide (b_.Time > 1000))))]) Kr {} {} (TL.next rfl (TC.cond ((((((decide (b_.Range < (-10000))) || (decide (b_.Range > 10000))) || (decide (b_.Azimuth < (-2047)))) || (decide (b_.Azimuth > 2048))) || (decide (b_.Time < (-1000)))) || (decide (b_.Time > 1000))) rfl Kr (fun h1=>?_) (fun h1=>?_))))))))))))))))))
  · exact TC.sr (TL.r 1 [] [(2,.i 4)] {} (TL.next rfl (TC.ret (TE.rt (TE.ret [] (.i 4) {} (by unfold bias_Check;refine eS (fun z=>(.i z:Value)) ?_;exact cond_t h1 (rfl)))))))
  · exact TC.snr (TL.r 1 [] [(2,.i 0)] {} (TL.next rfl (TC.ret (TE.ret [] (.i 0) {} (by unfold bias_Check;refine eS (fun z=>(.i z:Value)) ?_;exact cond_f h1 (rfl))))))
def angle_Diff (a:Int) (b_:Int):Int :=
  let r1:=angle_Norm (w64 (b_ - a))
  cond (decide (r1 > 2048)) (
    w64 (r1 - 4096)) (
    r1)
set_option maxRecDepth 100000 in
theorem angle_Diff_w (a:Int) (b_:Int) (w:World):Calls Tryz.prog 91 #[.int .i64 a,.int .i64 b_] w (Ret w (.int .i64 (angle_Diff a b_))):=by
  refine calls_intro (vs:=[.i a,.i b_]) (w:=w) Tryz.func91 rfl Tryz.ntmps91 rfl (TC.sr (TL.r 1 [] [(4,.i 0)] {} (TL.nr (TL.r 3 [] [(8,.i (w64 (b_ - a)))] {} (TL.c 9 (angle_Norm (w64 (b_ - a))) (fun r1=>.i r1) (fun w _=>angle_Norm_w (w64 (b_ - a)) w) {} (fun r1 hr1=>TL.r 5 [] [(5,.i r1)] {} (TL.ns (TC.sr (TL.r 2 [] [(11,.b (decide (r1 > 2048)))] {} (TL.next rfl (TC.cond (decide (r1 > 2048)) rfl Kr (fun h1=>?_) (fun h1=>?_))))))))))))
  · exact TC.region (TL.r 3 [] [(5,.i (w64 (r1 - 4096)))] {} (TL.nr (TL.r 2 [] [(4,.i (w64 (r1 - 4096)))] {} (TL.next rfl (TC.ret (TE.ret [] (.i (w64 (r1 - 4096))) {} (by unfold angle_Diff;refine eS (fun z=>(.i z:Value)) ?_;subst hr1;exact cond_t h1 (rfl))))))))
  · exact TC.snr (TL.r 2 [] [(4,.i r1)] {} (TL.next rfl (TC.ret (TE.ret [] (.i r1) {} (by unfold angle_Diff;refine eS (fun z=>(.i z:Value)) ?_;subst hr1;exact cond_f h1 (rfl))))))
def bias_moved (p:Plot) (b_:BiasOffset) (sign:Int):Plot × Int :=
  let r1:=bias_Check b_
  cond (r1 != 0) (
    ((⟨0,0,0,0,0,0⟩:Plot),r1)) (
    let r2:=radar_CheckPlot p
    cond (r2 != 0) (
      ((⟨0,0,0,0,0,0⟩:Plot),r2)) (
      let r3:=angle_Norm (w64 (p.Azimuth + (w64 (sign * b_.Azimuth))))
      let r4:=radar_CheckPlot (⟨p.Radar,w64 (p.Time + (w64 (sign * b_.Time))),w64 (p.Range + (w64 (sign * b_.Range))),r3,p.Height,p.Code⟩:Plot)
      cond (r4 != 0) (
        ((⟨0,0,0,0,0,0⟩:Plot),8)) (
        ((⟨p.Radar,w64 (p.Time + (w64 (sign * b_.Time))),w64 (p.Range + (w64 (sign * b_.Range))),r3,p.Height,p.Code⟩:Plot),0))))
set_option maxRecDepth 100000 in
theorem bias_moved_w (p:Plot) (b_:BiasOffset) (sign:Int) (w:World):Calls Tryz.prog 89 #[Plot.v p,BiasOffset.v b_,.int .i64 sign] w (Ret w (.tuple #[Plot.v ((bias_moved p b_ sign).1),.int .i64 ((bias_moved p b_ sign).2)])):=by
  refine calls_intro (vs:=[Plot.v p,BiasOffset.v b_,.i sign]) (w:=w) Tryz.func89 rfl Tryz.ntmps89 rfl (TC.sr (TL.nw 3 (fun b1=>.p0 b1) (fun b1=>Bk b1 (Plot.c p) 89) (fun b1=>{}) (fun b1=>TL.nw 4 (fun b2=>.p0 b2) (fun b2=>Bk b2 (BiasOffset.c b_) 104) (fun b2=>{}) (fun b2=>TL.nw 6 (fun b3=>.p0 b3) (fun b3=>Bk b3 (Plot.c Plot.zero) 89) (fun b3=>{}) (fun b3=>TL.r 4 [] [(7,.i 0)] {} (TL.ns (TC.sr (TL.r 1 [1] [(10,BiasOffset.v b_)] {} (TL.c 11 (bias_Check b_) (fun r1=>.i r1) (fun w _=>bias_Check_w b_ w) {} (fun r1 hr1=>TL.r 3 [] [(8,.i r1)] {} (TL.nr (TL.r 2 [] [(13,.b (r1 != 0))] {} (TL.next rfl (TC.cond (r1 != 0) rfl Kr (fun h1=>?_) (fun h1=>?_)))))))))))))))
  · exact TC.sr (TL.r 2 [] [(14,Plot.v Plot.zero),(15,.i r1)] {} (TL.s 0 (Bk b3 (Plot.c Plot.zero) 89) (fun _=>{}) (TL.r 4 [] [(7,.i r1)] {} (TL.next rfl (TC.ret (TE.rt (TE.ret [0] (.tuple #[Plot.v (⟨0,0,0,0,0,0⟩:Plot),.i r1]) {} (by unfold bias_moved;refine eS (a:=((⟨0,0,0,0,0,0⟩:Plot),r1)) (fun (z:Plot × Int)=>(.tuple #[Plot.v z.1,.i z.2]:Value)) ?_;subst hr1;exact cond_t h1 (rfl)))))))))
  · refine TC.sn (TC.seq (TC.sr (TL.r 1 [2] [(16,Plot.v p)] {} (TL.c 17 (radar_CheckPlot p) (fun r2=>.i r2) (fun w _=>radar_CheckPlot_w p w) {} (fun r2 hr2=>TL.r 3 [] [(9,.i r2)] {} (TL.nr (TL.r 2 [] [(19,.b (r2 != 0))] {} (TL.next rfl (TC.cond (r2 != 0) rfl Kr (fun h2=>?_) (fun h2=>?_))))))))))
    · exact TC.sr (TL.r 2 [] [(20,Plot.v Plot.zero),(21,.i r2)] {} (TL.s 0 (Bk b3 (Plot.c Plot.zero) 89) (fun _=>{}) (TL.r 4 [] [(7,.i r2)] {} (TL.next rfl (TC.ret (TE.rt (TE.ret [0] (.tuple #[Plot.v (⟨0,0,0,0,0,0⟩:Plot),.i r2]) {} (by unfold bias_moved;refine eS (a:=((⟨0,0,0,0,0,0⟩:Plot),r2)) (fun (z:Plot × Int)=>(.tuple #[Plot.v z.1,.i z.2]:Value)) ?_;subst hr1 hr2;exact cond_f h1 (cond_t h2 (rfl))))))))))
    · refine TC.snr (TL.r 8 [2,1] [(28,.i (w64 (p.Range + (w64 (sign * b_.Range))))),(29,.pt b1 2)] {} (TL.s 2 (Bk b1 (Plot.c (⟨p.Radar,p.Time,w64 (p.Range + (w64 (sign * b_.Range))),p.Azimuth,p.Height,p.Code⟩:Plot)) 89) (fun _=>{}) (TL.nr (TL.r 8 [2,1] [(36,.i (w64 (p.Time + (w64 (sign * b_.Time))))),(37,.pt b1 1)] {} (TL.s 2 (Bk b1 (Plot.c (⟨p.Radar,w64 (p.Time + (w64 (sign * b_.Time))),w64 (p.Range + (w64 (sign * b_.Range))),p.Azimuth,p.Height,p.Code⟩:Plot)) 89) (fun _=>{}) (TL.nr (TL.r 7 [2,1] [(44,.i (w64 (p.Azimuth + (w64 (sign * b_.Azimuth)))))] {} (TL.c 45 (angle_Norm (w64 (p.Azimuth + (w64 (sign * b_.Azimuth))))) (fun r3=>.i r3) (fun w _=>angle_Norm_w (w64 (p.Azimuth + (w64 (sign * b_.Azimuth)))) w) {} (fun r3 hr3=>TL.r 9 [] [(46,.pt b1 3)] {} (TL.s 2 (Bk b1 (Plot.c (⟨p.Radar,w64 (p.Time + (w64 (sign * b_.Time))),w64 (p.Range + (w64 (sign * b_.Range))),r3,p.Height,p.Code⟩:Plot)) 89) (fun _=>{}) (TL.ns (TC.sr (TL.r 1 [2] [(47,Plot.v (⟨p.Radar,w64 (p.Time + (w64 (sign * b_.Time))),w64 (p.Range + (w64 (sign * b_.Range))),r3,p.Height,p.Code⟩:Plot))] {} (TL.c 48 (radar_CheckPlot (⟨p.Radar,w64 (p.Time + (w64 (sign * b_.Time))),w64 (p.Range + (w64 (sign * b_.Range))),r3,p.Height,p.Code⟩:Plot)) (fun r4=>.i r4) (fun w _=>radar_CheckPlot_w (⟨p.Radar,w64 (p.Time + (w64 (sign * b_.Time))),w64 (p.Range + (w64 (sign * b_.Range))),r3,p.Height,p.Code⟩:Plot) w) {} (fun r4 hr4=>TL.r 3 [] [(49,.b (r4 != 0))] {} (TL.next rfl (TC.cond (r4 != 0) rfl Kr (fun h3=>?_) (fun h3=>?_))))))))))))))))))
      · exact TC.sr (TL.r 1 [] [(50,Plot.v Plot.zero)] {} (TL.s 0 (Bk b3 (Plot.c Plot.zero) 89) (fun _=>{}) (TL.r 3 [] [(7,.i 8)] {} (TL.next rfl (TC.ret (TE.rt (TE.ret [0] (.tuple #[Plot.v (⟨0,0,0,0,0,0⟩:Plot),.i 8]) {} (by unfold bias_moved;refine eS (a:=((⟨0,0,0,0,0,0⟩:Plot),8)) (fun (z:Plot × Int)=>(.tuple #[Plot.v z.1,.i z.2]:Value)) ?_;subst hr1 hr2 hr3 hr4;exact cond_f h1 (cond_f h2 (cond_t h3 (rfl)))))))))))
      · exact TC.snr (TL.r 1 [2] [(51,Plot.v (⟨p.Radar,w64 (p.Time + (w64 (sign * b_.Time))),w64 (p.Range + (w64 (sign * b_.Range))),r3,p.Height,p.Code⟩:Plot))] {} (TL.s 0 (Bk b3 (Plot.c (⟨p.Radar,w64 (p.Time + (w64 (sign * b_.Time))),w64 (p.Range + (w64 (sign * b_.Range))),r3,p.Height,p.Code⟩:Plot)) 89) (fun _=>{}) (TL.r 3 [] [(7,.i 0)] {} (TL.next rfl (TC.ret (TE.ret [0] (.tuple #[Plot.v (⟨p.Radar,w64 (p.Time + (w64 (sign * b_.Time))),w64 (p.Range + (w64 (sign * b_.Range))),r3,p.Height,p.Code⟩:Plot),.i 0]) {} (by unfold bias_moved;refine eS (a:=((⟨p.Radar,w64 (p.Time + (w64 (sign * b_.Time))),w64 (p.Range + (w64 (sign * b_.Range))),r3,p.Height,p.Code⟩:Plot),0)) (fun (z:Plot × Int)=>(.tuple #[Plot.v z.1,.i z.2]:Value)) ?_;subst hr1 hr2 hr3 hr4;exact cond_f h1 (cond_f h2 (cond_f h3 (rfl))))))))))
def bias_Apply (p:Plot) (b_:BiasOffset):Plot × Int :=
  let r1:=bias_moved p b_ 1
  (r1.1,r1.2)
set_option maxRecDepth 100000 in
theorem bias_Apply_w (p:Plot) (b_:BiasOffset) (w:World):Calls Tryz.prog 39 #[Plot.v p,BiasOffset.v b_] w (Ret w (.tuple #[Plot.v ((bias_Apply p b_).1),.int .i64 ((bias_Apply p b_).2)])):=by
  exact calls_intro (vs:=[Plot.v p,BiasOffset.v b_]) (w:=w) Tryz.func39 rfl Tryz.ntmps39 rfl (TC.sr (TL.nw 2 (fun b1=>.p0 b1) (fun b1=>Bk b1 (Plot.c p) 89) (fun b1=>{}) (fun b1=>TL.nw 3 (fun b2=>.p0 b2) (fun b2=>Bk b2 (BiasOffset.c b_) 104) (fun b2=>{}) (fun b2=>TL.nw 4 (fun b3=>.p0 b3) (fun b3=>Bk b3 (Plot.c Plot.zero) 89) (fun b3=>{}) (fun b3=>TL.r 4 [] [(5,.i 0)] {} (TL.nr (TL.r 2 [2,1] [(6,Plot.v p),(7,BiasOffset.v b_)] {} (TL.c 8 (bias_moved p b_ 1) (fun r1=>.tuple #[Plot.v r1.1,.i r1.2]) (fun w _=>bias_moved_w p b_ 1 w) {} (fun r1 hr1=>TL.r 5 [] [(9,Plot.v r1.1),(10,.i r1.2)] {} (TL.s 0 (Bk b3 (Plot.c r1.1) 89) (fun _=>{}) (TL.r 7 [] [(5,.i r1.2)] {} (TL.next rfl (TC.ret (TE.ret [0] (.tuple #[Plot.v r1.1,.i r1.2]) {} (by unfold bias_Apply;refine eS (a:=(r1.1,r1.2)) (fun (z:Plot × Int)=>(.tuple #[Plot.v z.1,.i z.2]:Value)) ?_;subst hr1;exact rfl)))))))))))))))
def bias_Correct (p:Plot) (b_:BiasOffset):Plot × Int :=
  let r1:=bias_moved p b_ (-1)
  (r1.1,r1.2)
set_option maxRecDepth 100000 in
theorem bias_Correct_w (p:Plot) (b_:BiasOffset) (w:World):Calls Tryz.prog 41 #[Plot.v p,BiasOffset.v b_] w (Ret w (.tuple #[Plot.v ((bias_Correct p b_).1),.int .i64 ((bias_Correct p b_).2)])):=by
  exact calls_intro (vs:=[Plot.v p,BiasOffset.v b_]) (w:=w) Tryz.func41 rfl Tryz.ntmps41 rfl (TC.sr (TL.nw 2 (fun b1=>.p0 b1) (fun b1=>Bk b1 (Plot.c p) 89) (fun b1=>{}) (fun b1=>TL.nw 3 (fun b2=>.p0 b2) (fun b2=>Bk b2 (BiasOffset.c b_) 104) (fun b2=>{}) (fun b2=>TL.nw 4 (fun b3=>.p0 b3) (fun b3=>Bk b3 (Plot.c Plot.zero) 89) (fun b3=>{}) (fun b3=>TL.r 4 [] [(5,.i 0)] {} (TL.nr (TL.r 2 [2,1] [(6,Plot.v p),(7,BiasOffset.v b_)] {} (TL.c 8 (bias_moved p b_ (-1)) (fun r1=>.tuple #[Plot.v r1.1,.i r1.2]) (fun w _=>bias_moved_w p b_ (-1) w) {} (fun r1 hr1=>TL.r 5 [] [(9,Plot.v r1.1),(10,.i r1.2)] {} (TL.s 0 (Bk b3 (Plot.c r1.1) 89) (fun _=>{}) (TL.r 7 [] [(5,.i r1.2)] {} (TL.next rfl (TC.ret (TE.ret [0] (.tuple #[Plot.v r1.1,.i r1.2]) {} (by unfold bias_Correct;refine eS (a:=(r1.1,r1.2)) (fun (z:Plot × Int)=>(.tuple #[Plot.v z.1,.i z.2]:Value)) ?_;subst hr1;exact rfl)))))))))))))))
end Go.Sky
end
section
namespace Go.Eng
open Go.RowKit Go.Sort Go.Proofs Go.Shelf
theorem flat_ic (l:List Int):flat (l.map ic)=l.map (Value.int .i64):=by
  induction l with
  | nil=>rfl
  | cons x l ih=>rw [List.map_cons,flat_cons,ih];rfl
theorem ints_sort {P:Program} {ρ:Ren} (L:Lays.n189 P ρ) (A:Option Addr) (cap e:Nat) (l:List Int) (w:World) (hM:Sat ⟨w,feet [.inr (Own A cap e 1 (l.map ic))]⟩ [.inr (Own A cap e 1 (l.map ic))] w) :
    Calls P (ρ.f 189) #[.slice A l.length cap] w (RetM (Γ:=List Int) ⟨w,feet [.inr (Own A cap e 1 (l.map ic))]⟩ (fun _=>.tuple #[])
      (fun g=>[.inr (Fact (g.length=l.length ∧ g=l.mergeSort (fun x y=>decide (x ≤ y)))),.inr (Own A cap e 1 (g.map ic))])):=by
  rcases hM.own_at 0 rfl with ⟨hc,hr⟩ | ⟨g,cur,h⟩
  · have hl:l=[]:=by simpa using hr
    subst hl
    refine (Any.slices_Sort_int_none L A cap w).mono ?_
    rintro en w' ⟨rfl,rfl⟩
    exact ⟨[],rfl,hM.fact (by simp)⟩
  · have hl:(l.map ic).length=l.length:=by simp
    have hat:=h.at_;subst hat
    have hh:=h.heap
    have ht:cur.toList.take l.length=l.map (Value.int .i64):=by
      have:=h.holds
      rwa [hl,Nat.mul_one,flat_ic] at this
    refine (Any.slices_Sort_int L g 0 cap l w (holds_of_blockI hh ht) (heap_lt hh) (by have:=h.short;rwa [hl] at this)).mono ?_
    rintro en w' ⟨rfl,n,os,rfl⟩
    generalize hs:l.mergeSort (fun x y=>decide (x ≤ y))=s
    have hsl:s.length=l.length:=by rw [← hs,List.length_mergeSort]
    have hle:=h.le;rw [hl] at hle
    have hG:=grownBy_sortedI (w:=w) (g:=g) (n:=n) (os:=os) s.toArray
    have hB:=heap_sortedI (w:=w) (g:=g) (n:=n) (os:=os) (cur:=cur) (e:=e) (fr:=(0,0)) s.toArray hh
    refine ⟨s,rfl,Sat.fact ?_ ⟨hsl,rfl⟩⟩
    have hsz:=h.size
    refine hM.step (j:=0) (e':=.inr (Own (some ⟨g,0,none⟩) cap e 1 (s.map ic))) rfl ⟨hG.os,hG.tape,hG.output,hG.size,fun k hk hf=>hG.block k hk (fun he=>hf ?_),Nat.le_add_right _ _⟩ ?_ (fun b hb=>.inl hb)
    · simp only [Option.some.injEq] at he
      exact ⟨h.pos,_,rfl,he.symm⟩
    · refine .inr ⟨g,putCells (Value.int .i64) 0 s.toArray cur,rfl,h.pos,hB,by simp [hsl,hle],h.max,by simp [putCells,hsz],?_,?_,?_⟩
      · rw [List.length_map,Nat.mul_one,flat_ic]
        exact take_putCellsI cur s (by omega)
      · intro r hr
        simp only [List.mem_map] at hr
        obtain ⟨x,_,rfl⟩:=hr;rfl
      · rw [List.length_map,hsl];have:=h.short;rwa [hl] at this
end Go.Eng
end
section
namespace Go.Proofs
open Go.Shelf
def Tryz.laysSortI_ren:Go.Shelf.Ren:=⟨fun | 189=>146 | 125=>141 | 257=>181 | 128=>179 | 129=>169 | 294=>208 | 295=>209 | 296=>210 | 297=>211 | 298=>212 | 299=>213 | 216=>214 | 300=>215 | 301=>216 | 328=>228 | 329=>204 | 330=>205 | 331=>229 | 332=>230 | 215=>180 | 343=>238 | n=>n,fun | 28=>22 | 3=>3 | 46=>227 | 0=>0 | 51=>251 | 53=>162 | 4=>4 | 183=>245 | 182=>244 | 131=>208 | 5=>5 | 9=>9 | 218=>268 | 222=>272 | 228=>280 | 229=>148 | n=>n,fun | n=>n⟩
theorem Tryz.laysSortI:Lays.n189 Tryz.prog Tryz.laysSortI_ren:={
  mixed:=by kernel_rfl,
  f125:=Tryz.func141.trans (congrArg some (by kernel_rfl)),
  f128:=Tryz.func179.trans (congrArg some (by kernel_rfl)),
  f129:=Tryz.func169.trans (congrArg some (by kernel_rfl)),
  f189:=Tryz.func146.trans (congrArg some (by kernel_rfl)),
  f215:=Tryz.func180.trans (congrArg some (by kernel_rfl)),
  f216:=Tryz.func214.trans (congrArg some (by kernel_rfl)),
  f257:=Tryz.func181.trans (congrArg some (by kernel_rfl)),
  f294:=Tryz.func208.trans (congrArg some (by kernel_rfl)),
  f295:=Tryz.func209.trans (congrArg some (by kernel_rfl)),
  f296:=Tryz.func210.trans (congrArg some (by kernel_rfl)),
  f297:=Tryz.func211.trans (congrArg some (by kernel_rfl)),
  f298:=Tryz.func212.trans (congrArg some (by kernel_rfl)),
  f299:=Tryz.func213.trans (congrArg some (by kernel_rfl)),
  f300:=Tryz.func215.trans (congrArg some (by kernel_rfl)),
  f301:=Tryz.func216.trans (congrArg some (by kernel_rfl)),
  f328:=Tryz.func228.trans (congrArg some (by kernel_rfl)),
  f329:=Tryz.func204.trans (congrArg some (by kernel_rfl)),
  f330:=Tryz.func205.trans (congrArg some (by kernel_rfl)),
  f331:=Tryz.func229.trans (congrArg some (by kernel_rfl)),
  f332:=Tryz.func230.trans (congrArg some (by kernel_rfl)),
  f343:=Tryz.func238.trans (congrArg some (by kernel_rfl)),
  t0:=Tryz.underlying0,
  a0:=Tryz.isAgg0,
  z0:=Tryz.sizeOf0,
  v0:=Tryz.zeroValue0,
  t3:=Tryz.underlying3,
  a3:=Tryz.isAgg3,
  z3:=Tryz.sizeOf3,
  v3:=Tryz.zeroValue3,
  t4:=Tryz.underlying4,
  a4:=Tryz.isAgg4,
  z4:=Tryz.sizeOf4,
  v4:=Tryz.zeroValue4,
  t5:=Tryz.underlying5,
  a5:=Tryz.isAgg5,
  z5:=Tryz.sizeOf5,
  v5:=Tryz.zeroValue5,
  t9:=Tryz.underlying9,
  a9:=Tryz.isAgg9,
  z9:=Tryz.sizeOf9,
  v9:=Tryz.zeroValue9,
  t28:=Tryz.underlying22,
  a28:=Tryz.isAgg22,
  z28:=Tryz.sizeOf22,
  v28:=Tryz.zeroValue22,
  t46:=Tryz.underlying227,
  a46:=Tryz.isAgg227,
  z46:=Tryz.sizeOf227,
  v46:=Tryz.zeroValue227,
  t51:=Tryz.underlying251,
  a51:=Tryz.isAgg251,
  z51:=Tryz.sizeOf251,
  v51:=Tryz.zeroValue251,
  t53:=Tryz.underlying162,
  a53:=Tryz.isAgg162,
  z53:=Tryz.sizeOf162,
  v53:=Tryz.zeroValue162,
  t131:=Tryz.underlying208,
  a131:=Tryz.isAgg208,
  z131:=Tryz.sizeOf208,
  v131:=Tryz.zeroValue208,
  t182:=Tryz.underlying244,
  a182:=Tryz.isAgg244,
  z182:=Tryz.sizeOf244,
  v182:=Tryz.zeroValue244,
  t183:=Tryz.underlying245,
  a183:=Tryz.isAgg245,
  z183:=Tryz.sizeOf245,
  v183:=Tryz.zeroValue245,
  t218:=Tryz.underlying268,
  a218:=Tryz.isAgg268,
  z218:=Tryz.sizeOf268,
  v218:=Tryz.zeroValue268,
  t222:=Tryz.underlying272,
  a222:=Tryz.isAgg272,
  z222:=Tryz.sizeOf272,
  v222:=Tryz.zeroValue272,
  t228:=Tryz.underlying280,
  a228:=Tryz.isAgg280,
  z228:=Tryz.sizeOf280,
  v228:=Tryz.zeroValue280,
  t229:=Tryz.underlying148,
  a229:=Tryz.isAgg148,
  z229:=Tryz.sizeOf148,
  v229:=Tryz.zeroValue148 }
end Go.Proofs
end
section
namespace Go.Sky
theorem count_le_of_gt (v:Int):∀ (l:List Int) (k:Nat),(∀ i,i ≤ k → i < l.length → l[i]?.getD 0 ≠ v) → k < l.length → l.count v + k + 1 ≤ l.length
  | [],k,_,h=>absurd h (Nat.not_lt_zero _)
  | a :: l,k,h,hk=>by
    have h0:=h 0 (Nat.zero_le _) (by simp)
    simp only [List.getElem?_cons_zero,Option.getD_some] at h0
    have hc:(a :: l).count v=l.count v:=by rw [List.count_cons];simp [h0]
    cases k with
    | zero=>rw [hc,List.length_cons];have:=List.count_le_length (a:=v) (l:=l);omega
    | succ k =>
      have:=count_le_of_gt v l k (fun i hi hl=>by have:=h (i + 1) (by omega) (by simp;omega);simpa using this) (by simpa using hk)
      rw [hc,List.length_cons];omega
theorem count_le_of_ge (v:Int):∀ (l:List Int) (k:Nat),(∀ i,k ≤ i → i < l.length → l[i]?.getD 0 ≠ v) → l.count v ≤ k
  | [],k,_=>by simp
  | a :: l,0,h=>by
    have h0:=h 0 (Nat.zero_le _) (by simp)
    simp only [List.getElem?_cons_zero,Option.getD_some] at h0
    have hc:(a :: l).count v=l.count v:=by rw [List.count_cons];simp [h0]
    have:=count_le_of_ge v l 0 (fun i hi hl=>by have:=h (i + 1) (by omega) (by simp;omega);simpa using this)
    omega
  | a :: l,k + 1,h=>by
    have:=count_le_of_ge v l k (fun i hi hl=>by have:=h (i + 1) (by omega) (by simp;omega);simpa using this)
    have:(a :: l).count v ≤ l.count v + 1:=by rw [List.count_cons];split <;> omega
    omega
theorem sorted_get {l:List Int} (h:l.Pairwise (fun x y=>decide (x ≤ y)=true)) {i j:Nat} (hij:i ≤ j) (hj:j < l.length):l[i]?.getD 0 ≤ l[j]?.getD 0:=by
  rcases Nat.lt_or_eq_of_le hij with h1 | h1
  · have:=(List.pairwise_iff_getElem.1 h) i j (by omega) hj h1
    rw [List.getElem?_eq_getElem (by omega),List.getElem?_eq_getElem hj]
    simpa using this
  · subst h1;omega
theorem median_most (l:List Int) (v:Int) (h:l.length < 2 * l.count v):(l.mergeSort (fun x y=>decide (x ≤ y)))[(l.length - 1) / 2]?.getD 0=v:=by
  have hp:=List.mergeSort_perm l (fun x y=>decide (x ≤ y))
  have hs:(l.mergeSort (fun x y=>decide (x ≤ y))).Pairwise (fun x y=>decide (x ≤ y)=true):=List.pairwise_mergeSort (fun a b c h1 h2=>by simp at *;omega) (fun a b=>by simp;omega) l
  generalize l.mergeSort (fun x y=>decide (x ≤ y))=s at hp hs
  have hc:=hp.count_eq v
  have hl:=hp.length_eq
  rw [← hc,← hl] at h
  rw [← hl]
  have hpos:0 < s.length:=by have:=List.count_le_length (a:=v) (l:=s);omega
  rcases Int.lt_trichotomy (s[(s.length - 1) / 2]?.getD 0) v with h1 | h1 | h1
  · have:=count_le_of_gt v s ((s.length - 1) / 2) (fun i hi hil=>by have:=sorted_get hs hi (by omega);omega) (by omega)
    omega
  · exact h1
  · have:=count_le_of_ge v s ((s.length - 1) / 2) (fun i hi hil=>by have:=sorted_get hs hi hil;omega)
    omega
theorem med_at {l l':List Int} (h:l'.length=l.length):l'[(((l'.length:Int) - 1) / 2).toNat]?.getD 0=l'[(l.length - 1) / 2]?.getD 0:=by
  rw [h];congr 2;omega
end Go.Sky
end
section
namespace Go.Eng
theorem run_index_two {P:Program} {w:World} {t e d:TypeId} {k:IntKind} {i:Int} {u v:Value} (h0:0 ≤ i) (h1:i < 2) (ht:P.underlying t=some (.array 2 e)) (he:P.underlying e=some (.slice d)) (hs:(P.info? e).map (·.size)=some 1) :
    (sV (Instr.index t (.agg #[u,v]) (.int k i))).run P w=.ok (.value (cond (decide (i=0)) u v)) w:=by
  refine run_sV ?_
  have hu:=run_underlying (P:=P) (w:=w) ht
  have hu2:=run_underlying (P:=P) (w:=w) he
  cases hi:P.info? e with
  | none=>rw [hi] at hs;cases hs
  | some q =>
    rw [hi] at hs
    simp only [Option.map_some,Option.some.injEq] at hs
    rcases (show i=0 ∨ i=1 by omega) with rfl | rfl
    · simp [Instr.index,asIntOf,hu,sizeOf,typeInfo,hi,hs,part,isAgg,hu2]
    · simp [Instr.index,asIntOf,hu,sizeOf,typeInfo,hi,hs,part,isAgg,hu2]
end Go.Eng
end
section
namespace Go.Sky
open Go Go.Eng Go.Proofs
set_option maxRecDepth 100000 in
theorem sortI_w (A_x:Option Addr) (c_x:Nat) (x:List Int) (w:World) (hM:Sat ⟨w,feet [.inr (Own A_x c_x 3 1 (x.map ic))]⟩ [.inr (Own A_x c_x 3 1 (x.map ic))] w):Calls Tryz.prog 146 #[.slice A_x x.length c_x] w (RetM (Γ:=(List Int)) ⟨w,feet [.inr (Own A_x c_x 3 1 (x.map ic))]⟩ (fun _=>.tuple #[]) (fun g=>[.inr (Fact (g.length=x.length ∧ g=x.mergeSort (fun x y=>decide (x ≤ y)))),.inr (Own A_x c_x 3 1 (g.map ic))])):=by
  exact ints_sort Tryz.laysSortI A_x c_x 3 x w hM
set_option maxRecDepth 100000 in
theorem medi_w (A_l:Option Addr) (c_l:Nat) (l:List Int) (w:World) (hM:Sat ⟨w,feet [.inr (Own A_l c_l 3 1 (l.map ic))]⟩ [.inr (Own A_l c_l 3 1 (l.map ic))] w) (hp:1 ≤ l.length):Calls Tryz.prog 92 #[.slice A_l l.length c_l] w (RetM (Γ:=(List Int) × Int) ⟨w,feet [.inr (Own A_l c_l 3 1 (l.map ic))]⟩ (fun g=>.int .i64 g.2) (fun g=>[.inr (Fact (g.1.length=l.length ∧ g.1=l.mergeSort (fun x y=>decide (x ≤ y)) ∧ g.2=(l.mergeSort (fun x y=>decide (x ≤ y)))[(l.length - 1) / 2]?.getD 0)),.inr (Own A_l c_l 3 1 (g.1.map ic))])):=by
  refine calls_introM (w0:=⟨w,feet [Ow A_l c_l 3 1 (l.map ic)]⟩) (vs:=[.slice A_l l.length c_l]) hM Tryz.func92 rfl Tryz.ntmps92 rfl (TC.weak [(0,.slice A_l l.length c_l)] Kr (TC.know (fun w hM=>hM.short_at 0 rfl) (fun s_l=>TC.sr (TL.run 1 [] [(0,.slice A_l l.length c_l)] rfl {} (TL.nr (TL.run 1 [] [(0,.slice A_l l.length c_l),(3,.slice A_l l.length c_l)] rfl {} (TL.callM (Γ:=(List Int)) (fun _=>.tuple #[]) (fun g=>[.inr (Fact (g.length=l.length ∧ g=l.mergeSort (fun x y=>decide (x ≤ y)))),Ow A_l c_l 3 1 (g.map ic)]) [Ow A_l c_l 3 1 (l.map ic)] [] (some 4) (fun _=>[(0,.slice A_l l.length c_l)]) (fun w hM=>sortI_w A_l c_l l w hM.pass) Kr (fun g=>Kr) ?_)))))))
  rintro x
  refine TL.conv [.inr (Fact (x.length=l.length ∧ x=l.mergeSort (fun x y=>decide (x ≤ y)))),Ow A_l c_l 3 1 (x.map ic)] (fun _ hM=>hM) (TL.know (fun w hM=>hM.fact_at 0 rfl) (fun hp_sortI=>TL.forget [Ow A_l c_l 3 1 (x.map ic)] (.cons _ (List.Sublist.refl _)) ?_))
  have hl_x:x.length=l.length:=hp_sortI.1
  exact TL.rw 0 (.slice A_l l.length c_l) (.slice A_l x.length c_l) Kr (by rw [hl_x]) (TL.nr (TL.run 5 [] [(5,.slice A_l x.length c_l),(9,.i (w64 ((w64 ((x.length:Int) - 1)).tdiv 2)))] rfl {} (TL.rw 9 (.i (w64 ((w64 ((x.length:Int) - 1)).tdiv 2))) (.i ((((x.length:Int) - 1)) / 2)) Kr (int_eq (by rw [w64_id (x:=((x.length:Int) - 1)) (by omega),tdiv_pos (a:=(((x.length:Int) - 1))) 2 (by omega),w64_id (x:=(((((x.length:Int) - 1)) / 2))) (by omega)])) (TL.val (sV (Instr.indexAt 22 (.slice A_l x.length c_l) (.i ((((x.length:Int) - 1)) / 2)))) (some 10) (.pointer (some ((A_l.getD noAddr).add (((((x.length:Int) - 1)) / 2).toNat * 1)))) [(10,.pointer (some ((A_l.getD noAddr).add (((((x.length:Int) - 1)) / 2).toNat * 1))))] (fun w hM=>run_index (hM.rd_at 0 rfl) (by simp) Kr sd sd) Kr Kr (TL.val (sV (Instr.loadAt 3 (.pointer (some ((A_l.getD noAddr).add (((((x.length:Int) - 1)) / 2).toNat * 1)))))) (some 11) (.i (x[((((x.length:Int) - 1)) / 2).toNat]?.getD 0)) [(11,.i (x[((((x.length:Int) - 1)) / 2).toNat]?.getD 0))] (fun w hM=>run_load_one (off:=0) (i:=((((x.length:Int) - 1)) / 2).toNat) (.i (x[((((x.length:Int) - 1)) / 2).toNat]?.getD 0)) (hM.rd_at 0 rfl) (map_at (getD_at _ _ 0 sd)) Kr Kr) Kr Kr (TL.run 8 [] [(2,.i (x[((((x.length:Int) - 1)) / 2).toNat]?.getD 0))] rfl {} (TL.next rfl (TC.ret (TE.retM (.inl rfl) (x,(x[((((x.length:Int) - 1)) / 2).toNat]?.getD 0)) [] (.i (x[((((x.length:Int) - 1)) / 2).toNat]?.getD 0)) {} rfl (fun _ hM=>(hM.sub (sb 1)).fact (by (try dsimp only);first | exact ⟨hp_sortI.1,hp_sortI.2,(by rw [← hp_sortI.2];exact med_at hp_sortI.1)⟩)))))))))))
def bias_Estimate_L2:List Plot → Nat → ((Unit) ⊕ (BiasOffset × Int))
  | [],_=>.inl ()
  | x :: xs,k_2=>let r1:=radar_CheckPlot x
    cond (r1 != 0) (
      .inr ((⟨0,0,0⟩:BiasOffset),r1)) (
      bias_Estimate_L2 xs (k_2 + 1))
def bias_Estimate_L1 (truth:List Plot) (seen:List Plot):Nat → Nat → ((Unit) ⊕ (BiasOffset × Int))
  | 0,_=>.inl ()
  | m + 1,k=>Sum.elim (fun _ =>
      bias_Estimate_L1 truth seen m (k + 1)) (fun r=>.inr r) (bias_Estimate_L2 (cond (decide ((k:Int)=0)) truth seen) 0)
def bias_Estimate_L3 (seen:List Plot):List Plot → Nat → (List Int) → (List Int) → (List Int) → (List Int × List Int × List Int)
  | [],_,far,turns,times=>(far,turns,times)
  | x_2 :: xs,k_3,far,turns,times=>let r2:=angle_Diff x_2.Azimuth ((seen[k_3]?.getD Plot.zero).Azimuth)
    bias_Estimate_L3 seen xs (k_3 + 1) (far ++ ([w64 (((seen[k_3]?.getD Plot.zero).Range) - x_2.Range)])) (turns ++ ([r2])) (times ++ ([w64 (((seen[k_3]?.getD Plot.zero).Time) - x_2.Time)]))
def bias_Estimate (truth:List Plot) (seen:List Plot):BiasOffset × Int :=
  cond ((decide ((truth.length:Int) > 256)) || (decide ((seen.length:Int) > 256))) (
    ((⟨0,0,0⟩:BiasOffset),2)) (
    Sum.elim (fun _ =>
      cond ((truth.length:Int) != (seen.length:Int)) (
        ((⟨0,0,0⟩:BiasOffset),3)) (
        cond ((seen.length:Int) == 0) (
          ((⟨0,0,0⟩:BiasOffset),8)) (
          bindv (bias_Estimate_L3 seen truth 0 ([]:List Int) ([]:List Int) ([]:List Int)) (fun (far_2,turns_2,times_2) =>
            let r4:=(far_2.mergeSort (fun x y=>decide (x ≤ y)))[(far_2.length - 1) / 2]?.getD 0
            let r6:=(turns_2.mergeSort (fun x y=>decide (x ≤ y)))[(turns_2.length - 1) / 2]?.getD 0
            let r8:=(times_2.mergeSort (fun x y=>decide (x ≤ y)))[(times_2.length - 1) / 2]?.getD 0
            let r9:=bias_Check (⟨r4,r6,r8⟩:BiasOffset)
            cond (r9 != 0) (
              ((⟨0,0,0⟩:BiasOffset),r9)) (
              ((⟨r4,r6,r8⟩:BiasOffset),0)))))) (fun r=>r) (bias_Estimate_L1 truth seen ((2:Int).toNat) 0))
set_option maxHeartbeats 4000000 in
set_option maxRecDepth 100000 in
theorem bias_Estimate_w (A_truth:Option Addr) (c_truth:Nat) (truth:List Plot) (A_seen:Option Addr) (c_seen:Nat) (seen:List Plot) (w:World) (h_truth:Rd w 6 A_truth (truth.map Plot.c)) (hc_truth:truth.length ≤ c_truth) (h_seen:Rd w 6 A_seen (seen.map Plot.c)) (hc_seen:seen.length ≤ c_seen):Calls Tryz.prog 40 #[.slice A_truth truth.length c_truth,.slice A_seen seen.length c_seen] w (Ret w (.tuple #[BiasOffset.v ((bias_Estimate truth seen).1),.int .i64 ((bias_Estimate truth seen).2)])):=by
  have s_truth:=h_truth.short;rw [List.length_map] at s_truth
  have s_seen:=h_seen.short;rw [List.length_map] at s_seen
  refine calls_intro (vs:=[.slice A_truth truth.length c_truth,.slice A_seen seen.length c_seen]) (w:=w) Tryz.func40 rfl Tryz.ntmps40 rfl (TC.sr (TL.nw 4 (fun b1=>.p0 b1) (fun b1=>Bk b1 (BiasOffset.c BiasOffset.zero) 104) (fun b1=>{}) (fun b1=>TL.r 2 [] [(5,.i 0)] {} (TL.nr (TL.r 1 [] [(20,BiasOffset.v BiasOffset.zero)] {} (TL.nw 6 (fun b2=>.p0 b2) (fun b2=>Bk b2 (BiasOffset.c BiasOffset.zero) 104) (fun b2=>{}) (fun b2=>TL.s 0 (Bk b2 (BiasOffset.c BiasOffset.zero) 104) (fun _=>{}) (TL.ns (TC.sr (TL.r 4 [] [(24,.b (decide ((truth.length:Int) > 256)))] {} (TL.j 24 (decide ((truth.length:Int) > 256)) 8 [] [] (fun β=>[(28,.b (β || (decide ((seen.length:Int) > 256))))]) Kr {} {} (TL.next rfl (TC.cond ((decide ((truth.length:Int) > 256)) || (decide ((seen.length:Int) > 256))) rfl Kr (fun h1=>?_) (fun h1=>?_))))))))))))))
  · exact TC.sr (TL.r 1 [0] [(29,BiasOffset.v (⟨0,0,0⟩:BiasOffset))] {} (TL.s 1 (Bk b1 (BiasOffset.c BiasOffset.zero) 104) (fun _=>{}) (TL.r 3 [] [(5,.i 2)] {} (TL.next rfl (TC.ret (TE.rt (TE.ret [1] (.tuple #[BiasOffset.v (⟨0,0,0⟩:BiasOffset),.i 2]) {} (by unfold bias_Estimate;refine eS (a:=((⟨0,0,0⟩:BiasOffset),2)) (fun (z:BiasOffset × Int)=>(.tuple #[BiasOffset.v z.1,.i z.2]:Value)) ?_;exact cond_t h1 (rfl)))))))))
  · have q1_0:=(dec_f (or_f1 h1))
    have q1_1:=(dec_f (or_f2 h1))
    refine TC.sn (TC.seq (TC.sr (TL.r 4 [] [(32,.agg #[.slice A_truth truth.length c_truth,.slice A_seen seen.length c_seen]),(33,.i 0)] {} (TL.next rfl ?_))))
    obtain ⟨R1,hR⟩:∃ R,R=bias_Estimate_L1 truth seen ((2:Int).toNat) 0:=⟨_,rfl⟩
    refine TC.cut (S:=Unit) (fun (_:Unit)=>[(0,.slice A_truth truth.length c_truth),(1,.slice A_seen seen.length c_seen),(4,.p0 b1),(6,.p0 b2)]) (fun (_:Unit)=>[Bk b2 (BiasOffset.c BiasOffset.zero) 104,Bk b1 (BiasOffset.c BiasOffset.zero) 104]) (fun (_:Unit)=>R1=.inl ()) ?_ ?_
    · refine TC.block (TC.lw (X:=Nat) (fun k=>[(0,.slice A_truth truth.length c_truth),(1,.slice A_seen seen.length c_seen),(4,.p0 b1),(6,.p0 b2),(32,.agg #[.slice A_truth truth.length c_truth,.slice A_seen seen.length c_seen]),(33,.i (k:Int))]) (fun k=>[Bk b2 (BiasOffset.c BiasOffset.zero) 104,Bk b1 (BiasOffset.c BiasOffset.zero) 104]) (fun k=>(2:Int).toNat - k) (fun k=>k ≤ (2:Int).toNat ∧ R1=bias_Estimate_L1 truth seen ((2:Int).toNat - k) k) ?_ 0 ⟨Nat.zero_le _,hR⟩ Kr (sb 3))
      rintro k ⟨hk,hI⟩
      refine TC.sr (TL.r 1 [] [(34,.b (decide ((k:Int) < 2)))] {} (TL.ns (TC.cond (decide ((k:Int) < 2)) rfl Kr (fun h2=>?_) (fun h2=>?_))))
      · have hlt:k < (2:Int).toNat:=by have:=of_decide_eq_true h2;first | omega | (simp at this;omega)
        have hd:(2:Int).toNat - k=((2:Int).toNat - (k + 1)) + 1:=by omega
        refine TC.sn (TC.seq (TC.block (TC.sr ?_)))
        obtain ⟨A1,hA1⟩:∃ A0_,A0_=cond (decide ((k:Int)=0)) A_truth A_seen:=⟨_,rfl⟩
        obtain ⟨c1,hc1⟩:∃ c0_,c0_=cond (decide ((k:Int)=0)) c_truth c_seen:=⟨_,rfl⟩
        have hR1:Rd w 6 A1 ((cond (decide ((k:Int)=0)) truth seen).map Plot.c):=by rw [hA1];cases (decide ((k:Int)=0)) <;> first | exact h_truth | exact h_seen
        have hC1:(cond (decide ((k:Int)=0)) truth seen).length ≤ c1:=by rw [hc1];cases (decide ((k:Int)=0)) <;> first | exact hc_truth | exact hc_seen
        have s_hR1:=hR1.short;rw [List.length_map] at s_hR1
        refine TL.v (sV (Instr.index 178 (.agg #[.slice A_truth truth.length c_truth,.slice A_seen seen.length c_seen]) (.i (k:Int)))) 35 (.slice A1 ((cond (decide ((k:Int)=0)) truth seen).length) c1) (fun w hM=>(run_index_two (e:=83) (d:=89) (by omega) (by omega) Kr Kr Kr).trans (by rw [hA1,hc1];cases (decide ((k:Int)=0)) <;> rfl)) {} (TL.r 2 [] [(8,.slice A1 ((cond (decide ((k:Int)=0)) truth seen).length) c1)] {} (TL.nr (TL.r 3 [] [(36,.slice A1 ((cond (decide ((k:Int)=0)) truth seen).length) c1),(37,.i ((cond (decide ((k:Int)=0)) truth seen).length:Int)),(38,.i 0)] {} (TL.next rfl ?_))))
        obtain ⟨R2,hR_2⟩:∃ R,R=bias_Estimate_L2 (cond (decide ((k:Int)=0)) truth seen) 0:=⟨_,rfl⟩
        refine TC.cut (S:=Unit) (fun (_:Unit)=>[(0,.slice A_truth truth.length c_truth),(1,.slice A_seen seen.length c_seen),(4,.p0 b1),(6,.p0 b2),(32,.agg #[.slice A_truth truth.length c_truth,.slice A_seen seen.length c_seen]),(33,.i (k:Int))]) (fun (_:Unit)=>[Bk b2 (BiasOffset.c BiasOffset.zero) 104,Bk b1 (BiasOffset.c BiasOffset.zero) 104]) (fun (_:Unit)=>R2=.inl ()) ?_ ?_
        · refine TC.block (TC.lw (X:=Nat) (fun k_2=>[(0,.slice A_truth truth.length c_truth),(1,.slice A_seen seen.length c_seen),(4,.p0 b1),(6,.p0 b2),(32,.agg #[.slice A_truth truth.length c_truth,.slice A_seen seen.length c_seen]),(33,.i (k:Int)),(36,.slice A1 ((cond (decide ((k:Int)=0)) truth seen).length) c1),(37,.i ((cond (decide ((k:Int)=0)) truth seen).length:Int)),(38,.i (k_2:Int))]) (fun k_2=>[Bk b2 (BiasOffset.c BiasOffset.zero) 104,Bk b1 (BiasOffset.c BiasOffset.zero) 104]) (fun k_2=>(cond (decide ((k:Int)=0)) truth seen).length - k_2) (fun k_2=>k_2 ≤ (cond (decide ((k:Int)=0)) truth seen).length ∧ R2=bias_Estimate_L2 ((cond (decide ((k:Int)=0)) truth seen).drop k_2) k_2) ?_ 0 ⟨Nat.zero_le _,hR_2⟩ Kr (sb 3))
          rintro k_2 ⟨hk_2,hI_2⟩
          refine TC.sr (TL.r 1 [] [(39,.b (decide ((k_2:Int) < ((cond (decide ((k:Int)=0)) truth seen).length:Int))))] {} (TL.ns (TC.cond (decide ((k_2:Int) < ((cond (decide ((k:Int)=0)) truth seen).length:Int))) rfl Kr (fun h3=>?_) (fun h3=>?_))))
          · have hlt_2:=ltN h3
            obtain ⟨x,hx_2⟩:=elN hlt_2
            have hd_2:=drop_at hx_2
            refine TC.sn (TC.seq (TC.block (TC.sr (TL.v (sV (Instr.indexAt 83 (.slice A1 ((cond (decide ((k:Int)=0)) truth seen).length) c1) (.i (k_2:Int)))) 40 (.pointer (some (Ix A1 (k_2 * 6)))) (fun w hM=>run_index (hR1.sat hM) (by simp) Kr sd sd) {} (TL.v (sV (Instr.loadAt 89 (.pointer (some (Ix A1 (k_2 * 6)))))) 41 (Plot.v x) (fun w hM=>run_load_agg (n:=6) (off:=0) (i:=k_2) (Plot.v x) (hR1.sat hM) (map_at hx_2) Kr Kr Kr) {} (TL.nw 10 (fun b3=>.p0 b3) (fun b3=>Bk b3 (Plot.c Plot.zero) 89) (fun b3=>{}) (fun b3=>TL.s 0 (Bk b3 (Plot.c x) 89) (fun _=>{}) (TL.nr (TL.r 1 [0] [(42,Plot.v x)] {} (TL.c 43 (radar_CheckPlot x) (fun r1=>.i r1) (fun w _=>radar_CheckPlot_w x w) {} (fun r1 hr1=>TL.r 3 [] [(11,.i r1)] {} (TL.nr (TL.r 2 [] [(45,.b (r1 != 0))] {} (TL.next rfl (TC.cond (r1 != 0) rfl Kr (fun h4=>?_) (fun h4=>?_))))))))))))))))
            · refine TC.sr (TL.r 2 [1] [(46,BiasOffset.v (⟨0,0,0⟩:BiasOffset)),(47,.i r1)] {} (TL.s 2 (Bk b1 (BiasOffset.c BiasOffset.zero) 104) (fun _=>{}) (TL.r 4 [] [(5,.i r1)] {} (TL.next rfl (TC.ret (TE.rb (TE.rt (TE.rt (TE.rb (TE.rt (TE.rb (TE.rt (TE.rt (TE.rb (TE.rt (TE.rt ?_))))))))))))))))
              exact TE.ret [2] (.tuple #[BiasOffset.v (⟨0,0,0⟩:BiasOffset),.i r1]) {} (by unfold bias_Estimate;refine eS (a:=((⟨0,0,0⟩:BiasOffset),r1)) (fun (z:BiasOffset × Int)=>(.tuple #[BiasOffset.v z.1,.i z.2]:Value)) ?_;subst hr1;exact cond_f h1 (elim_r (hR.symm.trans (hI.trans (by rw [hd];exact elim_r (hR_2.symm.trans (hI_2.trans (by rw [hd_2];exact cond_t h4 (rfl)))) rfl))) rfl))
            · have q4_0:=(bne_f h4)
              exact TC.skip (TE.nb (TE.next (TC.region (TL.r 2 [] [(38,.i (w64 ((k_2:Int) + 1)))] {} (TL.done rfl (TE.rw 38 (.i (w64 ((k_2:Int) + 1))) (.i ((k_2 + 1:Nat):Int)) Kr (w64_cast k_2 (by omega)) (TE.again (x:=k_2) (k_2 + 1) ⟨by omega,hI_2.trans (by subst hr1;rw [hd_2];exact cond_f h4 (rfl))⟩ (mN hlt_2) Kr (sb 6))))))))
          · have hd_2:=dropN h3
            refine TC.exit (TE.et (TE.et (TE.exit_same ?_)))
            exact TE.cut () (hI_2.trans (by rw [hd_2];exact rfl)) Kr (sb 3)
        · intro _ hJ_2
          exact TE.nb (TE.next (TC.region (TL.r 2 [] [(33,.i (w64 ((k:Int) + 1)))] {} (TL.done rfl (TE.rw 33 (.i (w64 ((k:Int) + 1))) (.i ((k + 1:Nat):Int)) Kr (w64_cast k (by omega)) (TE.again (x:=k) (k + 1) ⟨by omega,hI.trans (by rw [hd];exact elim_l (hR_2.symm.trans hJ_2) (rfl))⟩ (mN hlt) Kr (sb 3)))))))
      · have hd:(2:Int).toNat - k=0:=by have:=of_decide_eq_false h2;first | omega | (simp at this;omega)
        refine TC.exit (TE.et (TE.et (TE.exit_same ?_)))
        exact TE.cut () (hI.trans (by rw [hd];exact rfl)) Kr (sb 3)
    · intro _ hJ
      refine TE.next (TC.seq (TC.block (TC.sr (TL.r 6 [] [(50,.b ((truth.length:Int) != (seen.length:Int)))] {} (TL.next rfl (TC.cond ((truth.length:Int) != (seen.length:Int)) rfl Kr (fun h5=>?_) (fun h5=>?_)))))))
      · refine TC.sr (TL.r 1 [0] [(56,BiasOffset.v (⟨0,0,0⟩:BiasOffset))] {} (TL.s 1 (Bk b1 (BiasOffset.c BiasOffset.zero) 104) (fun _=>{}) (TL.r 3 [] [(5,.i 3)] {} (TL.next rfl (TC.ret (TE.rb (TE.rt ?_)))))))
        exact TE.ret [1] (.tuple #[BiasOffset.v (⟨0,0,0⟩:BiasOffset),.i 3]) {} (by unfold bias_Estimate;refine eS (a:=((⟨0,0,0⟩:BiasOffset),3)) (fun (z:BiasOffset × Int)=>(.tuple #[BiasOffset.v z.1,.i z.2]:Value)) ?_;exact cond_f h1 (elim_l (hR.symm.trans hJ) (cond_t h5 (rfl))))
      · have q5_0:=(bne_f h5)
        refine TC.sr (TL.r 4 [] [(57,.b ((seen.length:Int) == 0))] {} (TL.next rfl (TC.cond ((seen.length:Int) == 0) rfl Kr (fun h6=>?_) (fun h6=>?_))))
        · refine TC.sr (TL.r 1 [0] [(61,BiasOffset.v (⟨0,0,0⟩:BiasOffset))] {} (TL.s 1 (Bk b1 (BiasOffset.c BiasOffset.zero) 104) (fun _=>{}) (TL.r 3 [] [(5,.i 8)] {} (TL.next rfl (TC.ret (TE.rb (TE.rt ?_)))))))
          exact TE.ret [1] (.tuple #[BiasOffset.v (⟨0,0,0⟩:BiasOffset),.i 8]) {} (by unfold bias_Estimate;refine eS (a:=((⟨0,0,0⟩:BiasOffset),8)) (fun (z:BiasOffset × Int)=>(.tuple #[BiasOffset.v z.1,.i z.2]:Value)) ?_;exact cond_f h1 (elim_l (hR.symm.trans hJ) (cond_f h5 (cond_t h6 (rfl)))))
        · have q6_0:=(beq_f h6)
          refine TC.skip (TE.nb (TE.nr (TL.r 3 [] [(12,.slice none 0 0),(13,.slice none 0 0),(14,.slice none 0 0)] {} (TL.ns (TC.sr (TL.r 3 [] [(62,.slice A_truth truth.length c_truth),(63,.i (truth.length:Int)),(64,.i 0)] {} (TL.next rfl (TC.conv [Ow none 0 3 1 (([]:List Int).map ic),Bk b2 (BiasOffset.c BiasOffset.zero) 104,Bk b1 (BiasOffset.c BiasOffset.zero) 104] (fun _ hM=>hM.emptyrow none 3 1) (TC.conv [Ow none 0 3 1 (([]:List Int).map ic),Ow none 0 3 1 (([]:List Int).map ic),Bk b2 (BiasOffset.c BiasOffset.zero) 104,Bk b1 (BiasOffset.c BiasOffset.zero) 104] (fun _ hM=>hM.emptyrow none 3 1) (TC.conv [Ow none 0 3 1 (([]:List Int).map ic),Ow none 0 3 1 (([]:List Int).map ic),Ow none 0 3 1 (([]:List Int).map ic),Bk b2 (BiasOffset.c BiasOffset.zero) 104,Bk b1 (BiasOffset.c BiasOffset.zero) 104] (fun _ hM=>hM.emptyrow none 3 1) ?_))))))))))
          obtain ⟨R6,hR_3⟩:∃ R,R=bias_Estimate_L3 seen truth 0 ([]:List Int) ([]:List Int) ([]:List Int):=⟨_,rfl⟩
          refine TC.cut (S:=(List Int) × (List Int) × (List Int) × (Option Addr) × Nat × (Option Addr) × Nat × (Option Addr) × Nat) (fun (far_2,turns_2,times_2,A_far_2,c_far_2,A_turns_2,c_turns_2,A_times_2,c_times_2)=>[(4,.p0 b1),(6,.p0 b2),(12,.slice A_far_2 far_2.length c_far_2),(13,.slice A_turns_2 turns_2.length c_turns_2),(14,.slice A_times_2 times_2.length c_times_2)]) (fun (far_2,turns_2,times_2,A_far_2,c_far_2,A_turns_2,c_turns_2,A_times_2,c_times_2)=>[Ow A_times_2 c_times_2 3 1 (times_2.map ic),Ow A_turns_2 c_turns_2 3 1 (turns_2.map ic),Ow A_far_2 c_far_2 3 1 (far_2.map ic),Bk b2 (BiasOffset.c BiasOffset.zero) 104,Bk b1 (BiasOffset.c BiasOffset.zero) 104]) (fun (far_2,turns_2,times_2,A_far_2,c_far_2,A_turns_2,c_turns_2,A_times_2,c_times_2)=>R6=(far_2,turns_2,times_2) ∧ far_2.length ≤ truth.length ∧ turns_2.length ≤ truth.length ∧ times_2.length ≤ truth.length ∧ ((far_2.length:Int)=(truth.length:Int) ∧ (turns_2.length:Int)=(truth.length:Int) ∧ (times_2.length:Int)=(truth.length:Int))) ?_ ?_
          · refine TC.block (TC.lw (X:=Nat × (List Int) × (List Int) × (List Int) × (Option Addr) × Nat × (Option Addr) × Nat × (Option Addr) × Nat) (fun (k_3,far,turns,times,A_far,c_far,A_turns,c_turns,A_times,c_times)=>[(1,.slice A_seen seen.length c_seen),(4,.p0 b1),(6,.p0 b2),(12,.slice A_far far.length c_far),(13,.slice A_turns turns.length c_turns),(14,.slice A_times times.length c_times),(62,.slice A_truth truth.length c_truth),(63,.i (truth.length:Int)),(64,.i (k_3:Int))]) (fun (k_3,far,turns,times,A_far,c_far,A_turns,c_turns,A_times,c_times)=>[Ow A_times c_times 3 1 (times.map ic),Ow A_turns c_turns 3 1 (turns.map ic),Ow A_far c_far 3 1 (far.map ic),Bk b2 (BiasOffset.c BiasOffset.zero) 104,Bk b1 (BiasOffset.c BiasOffset.zero) 104]) (fun (k_3,far,turns,times,A_far,c_far,A_turns,c_turns,A_times,c_times)=>truth.length - k_3) (fun (k_3,far,turns,times,A_far,c_far,A_turns,c_turns,A_times,c_times)=>k_3 ≤ truth.length ∧ R6=bias_Estimate_L3 seen (truth.drop k_3) k_3 far turns times ∧ far.length ≤ k_3 ∧ turns.length ≤ k_3 ∧ times.length ≤ k_3 ∧ ((far.length:Int)=k_3 ∧ (turns.length:Int)=k_3 ∧ (times.length:Int)=k_3)) ?_ (0,([]:List Int),([]:List Int),([]:List Int),none,0,none,0,none,0) ⟨Nat.zero_le _,hR_3,sz,sz,sz,sz⟩ Kr (sb 31))
            rintro ⟨k_3,far,turns,times,A_far,c_far,A_turns,c_turns,A_times,c_times⟩ ⟨hk_3,hI_3,hl_far,hl_turns,hl_times,hl_iv0⟩
            refine TC.sr (TL.r 1 [] [(65,.b (decide ((k_3:Int) < (truth.length:Int))))] {} (TL.ns (TC.cond (decide ((k_3:Int) < (truth.length:Int))) rfl Kr (fun h7=>?_) (fun h7=>?_))))
            · have hlt_3:=ltN h7
              obtain ⟨x_2,hx_3⟩:=elN hlt_3
              have hd_3:=drop_at hx_3
              refine TC.sn (TC.seq (TC.block (TC.sr (TL.r 1 [] [(66,.i (k_3:Int))] {} (TL.v (sV (Instr.indexAt 83 (.slice A_truth truth.length c_truth) (.i (k_3:Int)))) 67 (.pointer (some (Ix A_truth (k_3 * 6)))) (fun w hM=>run_index (h_truth.sat hM) (by simp) Kr sd sd) {} (TL.v (sV (Instr.loadAt 89 (.pointer (some (Ix A_truth (k_3 * 6)))))) 68 (Plot.v x_2) (fun w hM=>run_load_agg (n:=6) (off:=0) (i:=k_3) (Plot.v x_2) (h_truth.sat hM) (map_at hx_3) Kr Kr Kr) {} (TL.nw 16 (fun b4=>.p0 b4) (fun b4=>Bk b4 (Plot.c Plot.zero) 89) (fun b4=>{}) (fun b4=>TL.r 5 [] [(15,.i (k_3:Int))] {} (TL.s 0 (Bk b4 (Plot.c x_2) 89) (fun _=>{}) (TL.nr (TL.r 2 [] [(69,.slice A_seen seen.length c_seen),(70,.i (k_3:Int))] {} (TL.v (sV (Instr.indexAt 83 (.slice A_seen seen.length c_seen) (.i (k_3:Int)))) 71 (.pointer (some (Ix A_seen (k_3 * 6)))) (fun w hM=>run_index (h_seen.sat hM) (by simp) Kr sd sd) {} (TL.v (sV (Instr.loadAt 89 (.pointer (some (Ix A_seen (k_3 * 6)))))) 72 (Plot.v (seen[k_3]?.getD Plot.zero)) (fun w hM=>run_load_agg (n:=6) (off:=0) (i:=k_3) (Plot.v (seen[k_3]?.getD Plot.zero)) (h_seen.sat hM) (map_at (getD_at _ _ Plot.zero sd)) Kr Kr Kr) {} (TL.nw 17 (fun b5=>.p0 b5) (fun b5=>Bk b5 (Plot.c Plot.zero) 89) (fun b5=>{}) (fun b5=>TL.s 0 (Bk b5 (Plot.c (seen[k_3]?.getD Plot.zero)) 89) (fun _=>{}) (TL.next rfl ?_))))))))))))))))
              obtain ⟨r2,hr2⟩:∃ r,angle_Diff x_2.Azimuth ((seen[k_3]?.getD Plot.zero).Azimuth)=r:=⟨_,rfl⟩
              let Mr24_:Mem:=[Bk b5 (Plot.c (seen[k_3]?.getD Plot.zero)) 89,Bk b4 (Plot.c x_2) 89,Bk b2 (BiasOffset.c BiasOffset.zero) 104,Bk b1 (BiasOffset.c BiasOffset.zero) 104]
              refine TC.plan (G:=Nat × AN × Nat × AN × Nat × AN) (base:=[(1,.slice A_seen seen.length c_seen),(4,.p0 b1),(6,.p0 b2),(12,.slice A_far far.length c_far),(13,.slice A_turns turns.length c_turns),(14,.slice A_times times.length c_times),(16,.p0 b4),(17,.p0 b5),(62,.slice A_truth truth.length c_truth),(63,.i (truth.length:Int)),(64,.i (k_3:Int))]) (vals:=fun γ=>[.slice A_far far.length c_far,.pt b5 2,.i ((seen[k_3]?.getD Plot.zero).Range),.pt b4 2,.i x_2.Range,.i (w64 (((seen[k_3]?.getD Plot.zero).Range) - x_2.Range)),.slice (Pa γ.1) 1 1,.slice (γ.2.1.1) ((far ++ ([w64 (((seen[k_3]?.getD Plot.zero).Range) - x_2.Range)])).length) (γ.2.1.2),.slice A_turns turns.length c_turns,.pt b4 3,.i x_2.Azimuth,.pt b5 3,.i ((seen[k_3]?.getD Plot.zero).Azimuth),.i r2,.slice (Pa γ.2.2.1) 1 1,.slice (γ.2.2.2.1.1) ((turns ++ ([r2])).length) (γ.2.2.2.1.2),.slice A_times times.length c_times,.pt b5 1,.i ((seen[k_3]?.getD Plot.zero).Time),.pt b4 1,.i x_2.Time,.i (w64 (((seen[k_3]?.getD Plot.zero).Time) - x_2.Time)),.slice (Pa γ.2.2.2.2.1) 1 1,.slice (γ.2.2.2.2.2.1) ((times ++ ([w64 (((seen[k_3]?.getD Plot.zero).Time) - x_2.Time)])).length) (γ.2.2.2.2.2.2),.slice (γ.2.1.1) ((far ++ ([w64 (((seen[k_3]?.getD Plot.zero).Range) - x_2.Range)])).length) (γ.2.1.2),.slice (γ.2.2.2.1.1) ((turns ++ ([r2])).length) (γ.2.2.2.1.2),.slice (γ.2.2.2.2.2.1) ((times ++ ([w64 (((seen[k_3]?.getD Plot.zero).Time) - x_2.Time)])).length) (γ.2.2.2.2.2.2)]) (writes:=[6,7,14,15,22,23]) (mem:=fun bs γ=>match bs with | [x6_,x7_,x14_,x15_,x22_,x23_]=>(bif x6_ then [Bk γ.1 #[.i (w64 (((seen[k_3]?.getD Plot.zero).Range) - x_2.Range))] 3] else []) ++ ((bif x7_ then [Ow (γ.2.1.1) (γ.2.1.2) 3 1 ((far ++ ([w64 (((seen[k_3]?.getD Plot.zero).Range) - x_2.Range)])).map ic)] else [Ow A_far c_far 3 1 (far.map ic)]) ++ ((bif x14_ then [Bk γ.2.2.1 #[.i r2] 3] else []) ++ ((bif x15_ then [Ow (γ.2.2.2.1.1) (γ.2.2.2.1.2) 3 1 ((turns ++ ([r2])).map ic)] else [Ow A_turns c_turns 3 1 (turns.map ic)]) ++ ((bif x22_ then [Bk γ.2.2.2.2.1 #[.i (w64 (((seen[k_3]?.getD Plot.zero).Time) - x_2.Time))] 3] else []) ++ ((bif x23_ then [Ow (γ.2.2.2.2.2.1) (γ.2.2.2.2.2.2) 3 1 ((times ++ ([w64 (((seen[k_3]?.getD Plot.zero).Time) - x_2.Time)])).map ic)] else [Ow A_times c_times 3 1 (times.map ic)]) ++ (Mr24_)))))) | _=>[]) (0,(none,0),0,(none,0),0,(none,0)) (fun γ=>[(1,.slice A_seen seen.length c_seen),(4,.p0 b1),(6,.p0 b2),(12,.slice (γ.2.1.1) ((far ++ ([w64 (((seen[k_3]?.getD Plot.zero).Range) - x_2.Range)])).length) (γ.2.1.2)),(13,.slice (γ.2.2.2.1.1) ((turns ++ ([r2])).length) (γ.2.2.2.1.2)),(14,.slice (γ.2.2.2.2.2.1) ((times ++ ([w64 (((seen[k_3]?.getD Plot.zero).Time) - x_2.Time)])).length) (γ.2.2.2.2.2.2)),(62,.slice A_truth truth.length c_truth),(63,.i (truth.length:Int)),(64,.i (k_3:Int))]) Kr Kr Kr Kr Kr (fun γ=>Kr) (fun _ hM=>hM.perm (px [4,3,2,0,1,5,6])) (fun γ=>Kr) ?_ ?_
              · skip
                exact Steps.run (i:=0) 6 [0,0,0,0,1,0] Mr24_ Kr Kr (fun S (γ:Nat × AN × Nat × AN × Nat × AN) w hM=>by rw [mS6 rfl rfl rfl rfl rfl rfl] at hM;exact hM.sub (sub_skip (sub_skip (sub_skip (sub_skip (sub_skip (sub_skip (List.Sublist.refl _)))))))) Kr (fun (γ:Nat × AN × Nat × AN × Nat × AN)=>{}) (Steps.op (i:=6) (Γ:=Nat) (fun g (γ:Nat × AN × Nat × AN × Nat × AN)=>(g,γ.2.1,γ.2.2.1,γ.2.2.2.1,γ.2.2.2.2.1,γ.2.2.2.2.2)) (fun _=>[]) (fun b (γ:Nat × AN × Nat × AN × Nat × AN)=>[Bk b #[.i (w64 (((seen[k_3]?.getD Plot.zero).Range) - x_2.Range))] 3]) (fun S (γ:Nat × AN × Nat × AN × Nat × AN)=>(bif S 7 then [Ow (γ.2.1.1) (γ.2.1.2) 3 1 ((far ++ ([w64 (((seen[k_3]?.getD Plot.zero).Range) - x_2.Range)])).map ic)] else [Ow A_far c_far 3 1 (far.map ic)]) ++ ((bif S 14 then [Bk γ.2.2.1 #[.i r2] 3] else []) ++ ((bif S 15 then [Ow (γ.2.2.2.1.1) (γ.2.2.2.1.2) 3 1 ((turns ++ ([r2])).map ic)] else [Ow A_turns c_turns 3 1 (turns.map ic)]) ++ ((bif S 22 then [Bk γ.2.2.2.2.1 #[.i (w64 (((seen[k_3]?.getD Plot.zero).Time) - x_2.Time))] 3] else []) ++ ((bif S 23 then [Ow (γ.2.2.2.2.2.1) (γ.2.2.2.2.2.2) 3 1 ((times ++ ([w64 (((seen[k_3]?.getD Plot.zero).Time) - x_2.Time)])).map ic)] else [Ow A_times c_times 3 1 (times.map ic)]) ++ (Mr24_)))))) [6,7,13,14,15,23,24,25,26] (fun (γ:Nat × AN × Nat × AN × Nat × AN)=>sV (Instr.buildSlice 22 1 #[(0,.i (w64 (((seen[k_3]?.getD Plot.zero).Range) - x_2.Range)))])) (some 79) (fun b (γ:Nat × AN × Nat × AN × Nat × AN)=>.slice (Pa b) 1 1) (fun S (γ:Nat × AN × Nat × AN × Nat × AN) hj hd hl=>by rw [mS6 hj rfl rfl rfl rfl rfl];exact List.Perm.refl _) (fun S (γ:Nat × AN × Nat × AN × Nat × AN) g _=>(List.Perm.refl _).symm) (fun (γ:Nat × AN × Nat × AN × Nat × AN) M' w hM=>run_new (v:=fun b=>.slice (Pa b) 1 1) (fun b M=>Kr) M' w hM) (fun (γ:Nat × AN × Nat × AN × Nat × AN)=>Kr) (fun (γ:Nat × AN × Nat × AN × Nat × AN) g=>Kr) Kr (fun (γ:Nat × AN × Nat × AN × Nat × AN) g=>Kr) (Steps.opL (i:=7) (Γ:=AN) (fun g (γ:Nat × AN × Nat × AN × Nat × AN)=>(γ.1,g,γ.2.2.1,γ.2.2.2.1,γ.2.2.2.2.1,γ.2.2.2.2.2)) (fun (γ:Nat × AN × Nat × AN × Nat × AN)=>[Ow A_far c_far 3 1 (far.map ic),Bk γ.1 #[.i (w64 (((seen[k_3]?.getD Plot.zero).Range) - x_2.Range))] 3]) (fun g (γ:Nat × AN × Nat × AN × Nat × AN)=>[Ow (g.1) (g.2) 3 1 ((far ++ ([w64 (((seen[k_3]?.getD Plot.zero).Range) - x_2.Range)])).map ic),Bk γ.1 #[.i (w64 (((seen[k_3]?.getD Plot.zero).Range) - x_2.Range))] 3]) (fun S (γ:Nat × AN × Nat × AN × Nat × AN)=>(bif S 14 then [Bk γ.2.2.1 #[.i r2] 3] else []) ++ ((bif S 15 then [Ow (γ.2.2.2.1.1) (γ.2.2.2.1.2) 3 1 ((turns ++ ([r2])).map ic)] else [Ow A_turns c_turns 3 1 (turns.map ic)]) ++ ((bif S 22 then [Bk γ.2.2.2.2.1 #[.i (w64 (((seen[k_3]?.getD Plot.zero).Time) - x_2.Time))] 3] else []) ++ ((bif S 23 then [Ow (γ.2.2.2.2.2.1) (γ.2.2.2.2.2.2) 3 1 ((times ++ ([w64 (((seen[k_3]?.getD Plot.zero).Time) - x_2.Time)])).map ic)] else [Ow A_times c_times 3 1 (times.map ic)]) ++ (Mr24_))))) [7,13,14,15,23,24,25,26] (fun (γ:Nat × AN × Nat × AN × Nat × AN)=>sV (Builtin.append_ #[22,22] 22 #[.slice A_far far.length c_far,.slice (Pa γ.1) 1 1])) (some 80) (fun g (γ:Nat × AN × Nat × AN × Nat × AN)=>.slice (g.1) ((far ++ ([w64 (((seen[k_3]?.getD Plot.zero).Range) - x_2.Range)])).length) (g.2)) (fun S (γ:Nat × AN × Nat × AN × Nat × AN) hj hd hl=>by change List.Perm (((bif S 6 then [Bk γ.1 #[.i (w64 (((seen[k_3]?.getD Plot.zero).Range) - x_2.Range))] 3] else []) ++ ((bif S 7 then [Ow (γ.2.1.1) (γ.2.1.2) 3 1 ((far ++ ([w64 (((seen[k_3]?.getD Plot.zero).Range) - x_2.Range)])).map ic)] else [Ow A_far c_far 3 1 (far.map ic)]) ++ ((bif S 14 then [Bk γ.2.2.1 #[.i r2] 3] else []) ++ ((bif S 15 then [Ow (γ.2.2.2.1.1) (γ.2.2.2.1.2) 3 1 ((turns ++ ([r2])).map ic)] else [Ow A_turns c_turns 3 1 (turns.map ic)]) ++ ((bif S 22 then [Bk γ.2.2.2.2.1 #[.i (w64 (((seen[k_3]?.getD Plot.zero).Time) - x_2.Time))] 3] else []) ++ ((bif S 23 then [Ow (γ.2.2.2.2.2.1) (γ.2.2.2.2.2.2) 3 1 ((times ++ ([w64 (((seen[k_3]?.getD Plot.zero).Time) - x_2.Time)])).map ic)] else [Ow A_times c_times 3 1 (times.map ic)]) ++ (Mr24_))))))):Mem) _;rw [hj,hd 6 Kr];exact ((List.Perm.append_left _ (List.Perm.refl _)).trans (perm_mid _ _ _)).trans (List.Perm.append_left _ ((List.Perm.refl _).trans (List.Perm.append_left _ (List.Perm.refl _))))) (fun S (γ:Nat × AN × Nat × AN × Nat × AN) g _ hd hl=>by change List.Perm ([Ow (g.1) (g.2) 3 1 ((far ++ ([w64 (((seen[k_3]?.getD Plot.zero).Range) - x_2.Range)])).map ic)] ++ ([Bk γ.1 #[.i (w64 (((seen[k_3]?.getD Plot.zero).Range) - x_2.Range))] 3] ++ ((bif S 14 then [Bk γ.2.2.1 #[.i r2] 3] else []) ++ ((bif S 15 then [Ow (γ.2.2.2.1.1) (γ.2.2.2.1.2) 3 1 ((turns ++ ([r2])).map ic)] else [Ow A_turns c_turns 3 1 (turns.map ic)]) ++ ((bif S 22 then [Bk γ.2.2.2.2.1 #[.i (w64 (((seen[k_3]?.getD Plot.zero).Time) - x_2.Time))] 3] else []) ++ ((bif S 23 then [Ow (γ.2.2.2.2.2.1) (γ.2.2.2.2.2.2) 3 1 ((times ++ ([w64 (((seen[k_3]?.getD Plot.zero).Time) - x_2.Time)])).map ic)] else [Ow A_times c_times 3 1 (times.map ic)]) ++ (Mr24_))))))) (((bif S 6 then [Bk γ.1 #[.i (w64 (((seen[k_3]?.getD Plot.zero).Range) - x_2.Range))] 3] else []) ++ ((bif true then [Ow (g.1) (g.2) 3 1 ((far ++ ([w64 (((seen[k_3]?.getD Plot.zero).Range) - x_2.Range)])).map ic)] else [Ow A_far c_far 3 1 (far.map ic)]) ++ ((bif S 14 then [Bk γ.2.2.1 #[.i r2] 3] else []) ++ ((bif S 15 then [Ow (γ.2.2.2.1.1) (γ.2.2.2.1.2) 3 1 ((turns ++ ([r2])).map ic)] else [Ow A_turns c_turns 3 1 (turns.map ic)]) ++ ((bif S 22 then [Bk γ.2.2.2.2.1 #[.i (w64 (((seen[k_3]?.getD Plot.zero).Time) - x_2.Time))] 3] else []) ++ ((bif S 23 then [Ow (γ.2.2.2.2.2.1) (γ.2.2.2.2.2.2) 3 1 ((times ++ ([w64 (((seen[k_3]?.getD Plot.zero).Time) - x_2.Time)])).map ic)] else [Ow A_times c_times 3 1 (times.map ic)]) ++ (Mr24_))))))):Mem);rw [hd 6 Kr];exact (((List.Perm.append_left _ (List.Perm.refl _)).trans (perm_mid _ _ _)).trans (List.Perm.append_left _ ((List.Perm.refl _).trans (List.Perm.append_left _ (List.Perm.refl _))))).symm) (fun (γ:Nat × AN × Nat × AN × Nat × AN) M' w hM=>app_at (bytes:=8) 22 0 ([w64 (((seen[k_3]?.getD Plot.zero).Range) - x_2.Range)]) Kr rfl rfl ic_one rfl (fun w hM=>(Rd.lit hM 1 _ rfl Kr Kr Kr)) rfl sa w hM) (fun (γ:Nat × AN × Nat × AN × Nat × AN)=>Kr) (fun (γ:Nat × AN × Nat × AN × Nat × AN) g=>Kr) Kr (fun (γ:Nat × AN × Nat × AN × Nat × AN) g=>Kr) (Steps.run (i:=8) 13 [0,0,1,0,0] Mr24_ Kr Kr (fun S (γ:Nat × AN × Nat × AN × Nat × AN) w hM=>by rw [mS6 rfl rfl rfl rfl rfl rfl] at hM;exact hM.sub (sub_skip (sub_skip (sub_skip (sub_skip (sub_skip (sub_skip (List.Sublist.refl _)))))))) Kr (fun (γ:Nat × AN × Nat × AN × Nat × AN)=>{}) (Steps.call (i:=13) 91 (fun (γ:Nat × AN × Nat × AN × Nat × AN)=>#[.i x_2.Azimuth,.i ((seen[k_3]?.getD Plot.zero).Azimuth)]) (some 86) (fun (γ:Nat × AN × Nat × AN × Nat × AN)=>.i r2) (fun (γ:Nat × AN × Nat × AN × Nat × AN)=>[Bk b5 (Plot.c (seen[k_3]?.getD Plot.zero)) 89,Bk b4 (Plot.c x_2) 89,Bk b2 (BiasOffset.c BiasOffset.zero) 104,Bk b1 (BiasOffset.c BiasOffset.zero) 104]) Kr (fun S (γ:Nat × AN × Nat × AN × Nat × AN) w _ hM=>by rw [mS6 rfl rfl rfl rfl rfl rfl] at hM;exact hM.sub (sub_skip (sub_skip (sub_skip (sub_skip (sub_skip (sub_skip (List.Sublist.refl _)))))))) (fun (γ:Nat × AN × Nat × AN × Nat × AN) w _=>by have h:=angle_Diff_w x_2.Azimuth ((seen[k_3]?.getD Plot.zero).Azimuth) w;rw [hr2] at h;exact h) (fun (γ:Nat × AN × Nat × AN × Nat × AN)=>Kr) (fun (γ:Nat × AN × Nat × AN × Nat × AN)=>Kr) (Steps.op (i:=14) (Γ:=Nat) (fun g (γ:Nat × AN × Nat × AN × Nat × AN)=>(γ.1,γ.2.1,g,γ.2.2.2.1,γ.2.2.2.2.1,γ.2.2.2.2.2)) (fun _=>[]) (fun b (γ:Nat × AN × Nat × AN × Nat × AN)=>[Bk b #[.i r2] 3]) (fun S (γ:Nat × AN × Nat × AN × Nat × AN)=>(bif S 6 then [Bk γ.1 #[.i (w64 (((seen[k_3]?.getD Plot.zero).Range) - x_2.Range))] 3] else []) ++ ((bif S 7 then [Ow (γ.2.1.1) (γ.2.1.2) 3 1 ((far ++ ([w64 (((seen[k_3]?.getD Plot.zero).Range) - x_2.Range)])).map ic)] else [Ow A_far c_far 3 1 (far.map ic)]) ++ ((bif S 15 then [Ow (γ.2.2.2.1.1) (γ.2.2.2.1.2) 3 1 ((turns ++ ([r2])).map ic)] else [Ow A_turns c_turns 3 1 (turns.map ic)]) ++ ((bif S 22 then [Bk γ.2.2.2.2.1 #[.i (w64 (((seen[k_3]?.getD Plot.zero).Time) - x_2.Time))] 3] else []) ++ ((bif S 23 then [Ow (γ.2.2.2.2.2.1) (γ.2.2.2.2.2.2) 3 1 ((times ++ ([w64 (((seen[k_3]?.getD Plot.zero).Time) - x_2.Time)])).map ic)] else [Ow A_times c_times 3 1 (times.map ic)]) ++ (Mr24_)))))) [14,15,23,24,25,26] (fun (γ:Nat × AN × Nat × AN × Nat × AN)=>sV (Instr.buildSlice 22 1 #[(0,.i r2)])) (some 87) (fun b (γ:Nat × AN × Nat × AN × Nat × AN)=>.slice (Pa b) 1 1) (fun S (γ:Nat × AN × Nat × AN × Nat × AN) hj hd hl=>by rw [mS6 rfl rfl hj rfl rfl rfl];exact (List.Perm.append_left _ ((List.Perm.append_left _ (List.Perm.refl _)).trans (perm_mid _ _ _))).trans (perm_mid _ _ _)) (fun S (γ:Nat × AN × Nat × AN × Nat × AN) g _=>((List.Perm.append_left _ ((List.Perm.append_left _ (List.Perm.refl _)).trans (perm_mid _ _ _))).trans (perm_mid _ _ _)).symm) (fun (γ:Nat × AN × Nat × AN × Nat × AN) M' w hM=>run_new (v:=fun b=>.slice (Pa b) 1 1) (fun b M=>Kr) M' w hM) (fun (γ:Nat × AN × Nat × AN × Nat × AN)=>Kr) (fun (γ:Nat × AN × Nat × AN × Nat × AN) g=>Kr) Kr (fun (γ:Nat × AN × Nat × AN × Nat × AN) g=>Kr) (Steps.opL (i:=15) (Γ:=AN) (fun g (γ:Nat × AN × Nat × AN × Nat × AN)=>(γ.1,γ.2.1,γ.2.2.1,g,γ.2.2.2.2.1,γ.2.2.2.2.2)) (fun (γ:Nat × AN × Nat × AN × Nat × AN)=>[Ow A_turns c_turns 3 1 (turns.map ic),Bk γ.2.2.1 #[.i r2] 3]) (fun g (γ:Nat × AN × Nat × AN × Nat × AN)=>[Ow (g.1) (g.2) 3 1 ((turns ++ ([r2])).map ic),Bk γ.2.2.1 #[.i r2] 3]) (fun S (γ:Nat × AN × Nat × AN × Nat × AN)=>(bif S 6 then [Bk γ.1 #[.i (w64 (((seen[k_3]?.getD Plot.zero).Range) - x_2.Range))] 3] else []) ++ ((bif S 7 then [Ow (γ.2.1.1) (γ.2.1.2) 3 1 ((far ++ ([w64 (((seen[k_3]?.getD Plot.zero).Range) - x_2.Range)])).map ic)] else [Ow A_far c_far 3 1 (far.map ic)]) ++ ((bif S 22 then [Bk γ.2.2.2.2.1 #[.i (w64 (((seen[k_3]?.getD Plot.zero).Time) - x_2.Time))] 3] else []) ++ ((bif S 23 then [Ow (γ.2.2.2.2.2.1) (γ.2.2.2.2.2.2) 3 1 ((times ++ ([w64 (((seen[k_3]?.getD Plot.zero).Time) - x_2.Time)])).map ic)] else [Ow A_times c_times 3 1 (times.map ic)]) ++ (Mr24_))))) [15,23,24,25,26] (fun (γ:Nat × AN × Nat × AN × Nat × AN)=>sV (Builtin.append_ #[22,22] 22 #[.slice A_turns turns.length c_turns,.slice (Pa γ.2.2.1) 1 1])) (some 88) (fun g (γ:Nat × AN × Nat × AN × Nat × AN)=>.slice (g.1) ((turns ++ ([r2])).length) (g.2)) (fun S (γ:Nat × AN × Nat × AN × Nat × AN) hj hd hl=>by change List.Perm (((bif S 6 then [Bk γ.1 #[.i (w64 (((seen[k_3]?.getD Plot.zero).Range) - x_2.Range))] 3] else []) ++ ((bif S 7 then [Ow (γ.2.1.1) (γ.2.1.2) 3 1 ((far ++ ([w64 (((seen[k_3]?.getD Plot.zero).Range) - x_2.Range)])).map ic)] else [Ow A_far c_far 3 1 (far.map ic)]) ++ ((bif S 14 then [Bk γ.2.2.1 #[.i r2] 3] else []) ++ ((bif S 15 then [Ow (γ.2.2.2.1.1) (γ.2.2.2.1.2) 3 1 ((turns ++ ([r2])).map ic)] else [Ow A_turns c_turns 3 1 (turns.map ic)]) ++ ((bif S 22 then [Bk γ.2.2.2.2.1 #[.i (w64 (((seen[k_3]?.getD Plot.zero).Time) - x_2.Time))] 3] else []) ++ ((bif S 23 then [Ow (γ.2.2.2.2.2.1) (γ.2.2.2.2.2.2) 3 1 ((times ++ ([w64 (((seen[k_3]?.getD Plot.zero).Time) - x_2.Time)])).map ic)] else [Ow A_times c_times 3 1 (times.map ic)]) ++ (Mr24_))))))):Mem) _;rw [hj,hd 14 Kr];exact ((List.Perm.append_left _ ((List.Perm.append_left _ ((List.Perm.append_left _ (List.Perm.refl _)).trans (perm_mid _ _ _))).trans (perm_mid _ _ _))).trans (perm_mid _ _ _)).trans (List.Perm.append_left _ (((List.Perm.append_left _ ((List.Perm.append_left _ (List.Perm.refl _)).trans (perm_mid _ _ _))).trans (perm_mid _ _ _)).trans (List.Perm.append_left _ (List.Perm.refl _))))) (fun S (γ:Nat × AN × Nat × AN × Nat × AN) g _ hd hl=>by change List.Perm ([Ow (g.1) (g.2) 3 1 ((turns ++ ([r2])).map ic)] ++ ([Bk γ.2.2.1 #[.i r2] 3] ++ ((bif S 6 then [Bk γ.1 #[.i (w64 (((seen[k_3]?.getD Plot.zero).Range) - x_2.Range))] 3] else []) ++ ((bif S 7 then [Ow (γ.2.1.1) (γ.2.1.2) 3 1 ((far ++ ([w64 (((seen[k_3]?.getD Plot.zero).Range) - x_2.Range)])).map ic)] else [Ow A_far c_far 3 1 (far.map ic)]) ++ ((bif S 22 then [Bk γ.2.2.2.2.1 #[.i (w64 (((seen[k_3]?.getD Plot.zero).Time) - x_2.Time))] 3] else []) ++ ((bif S 23 then [Ow (γ.2.2.2.2.2.1) (γ.2.2.2.2.2.2) 3 1 ((times ++ ([w64 (((seen[k_3]?.getD Plot.zero).Time) - x_2.Time)])).map ic)] else [Ow A_times c_times 3 1 (times.map ic)]) ++ (Mr24_))))))) (((bif S 6 then [Bk γ.1 #[.i (w64 (((seen[k_3]?.getD Plot.zero).Range) - x_2.Range))] 3] else []) ++ ((bif S 7 then [Ow (γ.2.1.1) (γ.2.1.2) 3 1 ((far ++ ([w64 (((seen[k_3]?.getD Plot.zero).Range) - x_2.Range)])).map ic)] else [Ow A_far c_far 3 1 (far.map ic)]) ++ ((bif S 14 then [Bk γ.2.2.1 #[.i r2] 3] else []) ++ ((bif true then [Ow (g.1) (g.2) 3 1 ((turns ++ ([r2])).map ic)] else [Ow A_turns c_turns 3 1 (turns.map ic)]) ++ ((bif S 22 then [Bk γ.2.2.2.2.1 #[.i (w64 (((seen[k_3]?.getD Plot.zero).Time) - x_2.Time))] 3] else []) ++ ((bif S 23 then [Ow (γ.2.2.2.2.2.1) (γ.2.2.2.2.2.2) 3 1 ((times ++ ([w64 (((seen[k_3]?.getD Plot.zero).Time) - x_2.Time)])).map ic)] else [Ow A_times c_times 3 1 (times.map ic)]) ++ (Mr24_))))))):Mem);rw [hd 14 Kr];exact (((List.Perm.append_left _ ((List.Perm.append_left _ ((List.Perm.append_left _ (List.Perm.refl _)).trans (perm_mid _ _ _))).trans (perm_mid _ _ _))).trans (perm_mid _ _ _)).trans (List.Perm.append_left _ (((List.Perm.append_left _ ((List.Perm.append_left _ (List.Perm.refl _)).trans (perm_mid _ _ _))).trans (perm_mid _ _ _)).trans (List.Perm.append_left _ (List.Perm.refl _))))).symm) (fun (γ:Nat × AN × Nat × AN × Nat × AN) M' w hM=>app_at (bytes:=8) 22 0 ([r2]) Kr rfl rfl ic_one rfl (fun w hM=>(Rd.lit hM 1 _ rfl Kr Kr Kr)) rfl sa w hM) (fun (γ:Nat × AN × Nat × AN × Nat × AN)=>Kr) (fun (γ:Nat × AN × Nat × AN × Nat × AN) g=>Kr) Kr (fun (γ:Nat × AN × Nat × AN × Nat × AN) g=>Kr) (Steps.run (i:=16) 22 [0,0,0,0,1,0] Mr24_ Kr Kr (fun S (γ:Nat × AN × Nat × AN × Nat × AN) w hM=>by rw [mS6 rfl rfl rfl rfl rfl rfl] at hM;exact hM.sub (sub_skip (sub_skip (sub_skip (sub_skip (sub_skip (sub_skip (List.Sublist.refl _)))))))) Kr (fun (γ:Nat × AN × Nat × AN × Nat × AN)=>{}) (Steps.op (i:=22) (Γ:=Nat) (fun g (γ:Nat × AN × Nat × AN × Nat × AN)=>(γ.1,γ.2.1,γ.2.2.1,γ.2.2.2.1,g,γ.2.2.2.2.2)) (fun _=>[]) (fun b (γ:Nat × AN × Nat × AN × Nat × AN)=>[Bk b #[.i (w64 (((seen[k_3]?.getD Plot.zero).Time) - x_2.Time))] 3]) (fun S (γ:Nat × AN × Nat × AN × Nat × AN)=>(bif S 6 then [Bk γ.1 #[.i (w64 (((seen[k_3]?.getD Plot.zero).Range) - x_2.Range))] 3] else []) ++ ((bif S 7 then [Ow (γ.2.1.1) (γ.2.1.2) 3 1 ((far ++ ([w64 (((seen[k_3]?.getD Plot.zero).Range) - x_2.Range)])).map ic)] else [Ow A_far c_far 3 1 (far.map ic)]) ++ ((bif S 14 then [Bk γ.2.2.1 #[.i r2] 3] else []) ++ ((bif S 15 then [Ow (γ.2.2.2.1.1) (γ.2.2.2.1.2) 3 1 ((turns ++ ([r2])).map ic)] else [Ow A_turns c_turns 3 1 (turns.map ic)]) ++ ((bif S 23 then [Ow (γ.2.2.2.2.2.1) (γ.2.2.2.2.2.2) 3 1 ((times ++ ([w64 (((seen[k_3]?.getD Plot.zero).Time) - x_2.Time)])).map ic)] else [Ow A_times c_times 3 1 (times.map ic)]) ++ (Mr24_)))))) [22,23,24,25,26] (fun (γ:Nat × AN × Nat × AN × Nat × AN)=>sV (Instr.buildSlice 22 1 #[(0,.i (w64 (((seen[k_3]?.getD Plot.zero).Time) - x_2.Time)))])) (some 95) (fun b (γ:Nat × AN × Nat × AN × Nat × AN)=>.slice (Pa b) 1 1) (fun S (γ:Nat × AN × Nat × AN × Nat × AN) hj hd hl=>by rw [mS6 rfl rfl rfl rfl hj rfl];exact (List.Perm.append_left _ ((List.Perm.append_left _ ((List.Perm.append_left _ ((List.Perm.append_left _ (List.Perm.refl _)).trans (perm_mid _ _ _))).trans (perm_mid _ _ _))).trans (perm_mid _ _ _))).trans (perm_mid _ _ _)) (fun S (γ:Nat × AN × Nat × AN × Nat × AN) g _=>((List.Perm.append_left _ ((List.Perm.append_left _ ((List.Perm.append_left _ ((List.Perm.append_left _ (List.Perm.refl _)).trans (perm_mid _ _ _))).trans (perm_mid _ _ _))).trans (perm_mid _ _ _))).trans (perm_mid _ _ _)).symm) (fun (γ:Nat × AN × Nat × AN × Nat × AN) M' w hM=>run_new (v:=fun b=>.slice (Pa b) 1 1) (fun b M=>Kr) M' w hM) (fun (γ:Nat × AN × Nat × AN × Nat × AN)=>Kr) (fun (γ:Nat × AN × Nat × AN × Nat × AN) g=>Kr) Kr (fun (γ:Nat × AN × Nat × AN × Nat × AN) g=>Kr) (Steps.opL (i:=23) (Γ:=AN) (fun g (γ:Nat × AN × Nat × AN × Nat × AN)=>(γ.1,γ.2.1,γ.2.2.1,γ.2.2.2.1,γ.2.2.2.2.1,g)) (fun (γ:Nat × AN × Nat × AN × Nat × AN)=>[Ow A_times c_times 3 1 (times.map ic),Bk γ.2.2.2.2.1 #[.i (w64 (((seen[k_3]?.getD Plot.zero).Time) - x_2.Time))] 3]) (fun g (γ:Nat × AN × Nat × AN × Nat × AN)=>[Ow (g.1) (g.2) 3 1 ((times ++ ([w64 (((seen[k_3]?.getD Plot.zero).Time) - x_2.Time)])).map ic),Bk γ.2.2.2.2.1 #[.i (w64 (((seen[k_3]?.getD Plot.zero).Time) - x_2.Time))] 3]) (fun S (γ:Nat × AN × Nat × AN × Nat × AN)=>(bif S 6 then [Bk γ.1 #[.i (w64 (((seen[k_3]?.getD Plot.zero).Range) - x_2.Range))] 3] else []) ++ ((bif S 7 then [Ow (γ.2.1.1) (γ.2.1.2) 3 1 ((far ++ ([w64 (((seen[k_3]?.getD Plot.zero).Range) - x_2.Range)])).map ic)] else [Ow A_far c_far 3 1 (far.map ic)]) ++ ((bif S 14 then [Bk γ.2.2.1 #[.i r2] 3] else []) ++ ((bif S 15 then [Ow (γ.2.2.2.1.1) (γ.2.2.2.1.2) 3 1 ((turns ++ ([r2])).map ic)] else [Ow A_turns c_turns 3 1 (turns.map ic)]) ++ (Mr24_))))) [23,24,25,26] (fun (γ:Nat × AN × Nat × AN × Nat × AN)=>sV (Builtin.append_ #[22,22] 22 #[.slice A_times times.length c_times,.slice (Pa γ.2.2.2.2.1) 1 1])) (some 96) (fun g (γ:Nat × AN × Nat × AN × Nat × AN)=>.slice (g.1) ((times ++ ([w64 (((seen[k_3]?.getD Plot.zero).Time) - x_2.Time)])).length) (g.2)) (fun S (γ:Nat × AN × Nat × AN × Nat × AN) hj hd hl=>by change List.Perm (((bif S 6 then [Bk γ.1 #[.i (w64 (((seen[k_3]?.getD Plot.zero).Range) - x_2.Range))] 3] else []) ++ ((bif S 7 then [Ow (γ.2.1.1) (γ.2.1.2) 3 1 ((far ++ ([w64 (((seen[k_3]?.getD Plot.zero).Range) - x_2.Range)])).map ic)] else [Ow A_far c_far 3 1 (far.map ic)]) ++ ((bif S 14 then [Bk γ.2.2.1 #[.i r2] 3] else []) ++ ((bif S 15 then [Ow (γ.2.2.2.1.1) (γ.2.2.2.1.2) 3 1 ((turns ++ ([r2])).map ic)] else [Ow A_turns c_turns 3 1 (turns.map ic)]) ++ ((bif S 22 then [Bk γ.2.2.2.2.1 #[.i (w64 (((seen[k_3]?.getD Plot.zero).Time) - x_2.Time))] 3] else []) ++ ((bif S 23 then [Ow (γ.2.2.2.2.2.1) (γ.2.2.2.2.2.2) 3 1 ((times ++ ([w64 (((seen[k_3]?.getD Plot.zero).Time) - x_2.Time)])).map ic)] else [Ow A_times c_times 3 1 (times.map ic)]) ++ (Mr24_))))))):Mem) _;rw [hj,hd 22 Kr];exact ((List.Perm.append_left _ ((List.Perm.append_left _ ((List.Perm.append_left _ ((List.Perm.append_left _ ((List.Perm.append_left _ (List.Perm.refl _)).trans (perm_mid _ _ _))).trans (perm_mid _ _ _))).trans (perm_mid _ _ _))).trans (perm_mid _ _ _))).trans (perm_mid _ _ _)).trans (List.Perm.append_left _ (((List.Perm.append_left _ ((List.Perm.append_left _ ((List.Perm.append_left _ ((List.Perm.append_left _ (List.Perm.refl _)).trans (perm_mid _ _ _))).trans (perm_mid _ _ _))).trans (perm_mid _ _ _))).trans (perm_mid _ _ _)).trans (List.Perm.append_left _ (List.Perm.refl _))))) (fun S (γ:Nat × AN × Nat × AN × Nat × AN) g _ hd hl=>by change List.Perm ([Ow (g.1) (g.2) 3 1 ((times ++ ([w64 (((seen[k_3]?.getD Plot.zero).Time) - x_2.Time)])).map ic)] ++ ([Bk γ.2.2.2.2.1 #[.i (w64 (((seen[k_3]?.getD Plot.zero).Time) - x_2.Time))] 3] ++ ((bif S 6 then [Bk γ.1 #[.i (w64 (((seen[k_3]?.getD Plot.zero).Range) - x_2.Range))] 3] else []) ++ ((bif S 7 then [Ow (γ.2.1.1) (γ.2.1.2) 3 1 ((far ++ ([w64 (((seen[k_3]?.getD Plot.zero).Range) - x_2.Range)])).map ic)] else [Ow A_far c_far 3 1 (far.map ic)]) ++ ((bif S 14 then [Bk γ.2.2.1 #[.i r2] 3] else []) ++ ((bif S 15 then [Ow (γ.2.2.2.1.1) (γ.2.2.2.1.2) 3 1 ((turns ++ ([r2])).map ic)] else [Ow A_turns c_turns 3 1 (turns.map ic)]) ++ (Mr24_))))))) (((bif S 6 then [Bk γ.1 #[.i (w64 (((seen[k_3]?.getD Plot.zero).Range) - x_2.Range))] 3] else []) ++ ((bif S 7 then [Ow (γ.2.1.1) (γ.2.1.2) 3 1 ((far ++ ([w64 (((seen[k_3]?.getD Plot.zero).Range) - x_2.Range)])).map ic)] else [Ow A_far c_far 3 1 (far.map ic)]) ++ ((bif S 14 then [Bk γ.2.2.1 #[.i r2] 3] else []) ++ ((bif S 15 then [Ow (γ.2.2.2.1.1) (γ.2.2.2.1.2) 3 1 ((turns ++ ([r2])).map ic)] else [Ow A_turns c_turns 3 1 (turns.map ic)]) ++ ((bif S 22 then [Bk γ.2.2.2.2.1 #[.i (w64 (((seen[k_3]?.getD Plot.zero).Time) - x_2.Time))] 3] else []) ++ ((bif true then [Ow (g.1) (g.2) 3 1 ((times ++ ([w64 (((seen[k_3]?.getD Plot.zero).Time) - x_2.Time)])).map ic)] else [Ow A_times c_times 3 1 (times.map ic)]) ++ (Mr24_))))))):Mem);rw [hd 22 Kr];exact (((List.Perm.append_left _ ((List.Perm.append_left _ ((List.Perm.append_left _ ((List.Perm.append_left _ ((List.Perm.append_left _ (List.Perm.refl _)).trans (perm_mid _ _ _))).trans (perm_mid _ _ _))).trans (perm_mid _ _ _))).trans (perm_mid _ _ _))).trans (perm_mid _ _ _)).trans (List.Perm.append_left _ (((List.Perm.append_left _ ((List.Perm.append_left _ ((List.Perm.append_left _ ((List.Perm.append_left _ (List.Perm.refl _)).trans (perm_mid _ _ _))).trans (perm_mid _ _ _))).trans (perm_mid _ _ _))).trans (perm_mid _ _ _)).trans (List.Perm.append_left _ (List.Perm.refl _))))).symm) (fun (γ:Nat × AN × Nat × AN × Nat × AN) M' w hM=>app_at (bytes:=8) 22 0 ([w64 (((seen[k_3]?.getD Plot.zero).Time) - x_2.Time)]) Kr rfl rfl ic_one rfl (fun w hM=>(Rd.lit hM 1 _ rfl Kr Kr Kr)) rfl sa w hM) (fun (γ:Nat × AN × Nat × AN × Nat × AN)=>Kr) (fun (γ:Nat × AN × Nat × AN × Nat × AN) g=>Kr) Kr (fun (γ:Nat × AN × Nat × AN × Nat × AN) g=>Kr) (Steps.run (i:=24) 27 [0,0,0] Mr24_ Kr Kr (fun S (γ:Nat × AN × Nat × AN × Nat × AN) w hM=>by rw [mS6 rfl rfl rfl rfl rfl rfl] at hM;exact hM.sub (sub_skip (sub_skip (sub_skip (sub_skip (sub_skip (sub_skip (List.Sublist.refl _)))))))) Kr (fun (γ:Nat × AN × Nat × AN × Nat × AN)=>{}) (Steps.done Kr)))))))))))
              · rintro ⟨b6,⟨A,c⟩,b7,⟨A_2,c_2⟩,b8,⟨A_3,c_3⟩⟩
                exact TE.conv [Bk b6 #[.i (w64 (((seen[k_3]?.getD Plot.zero).Range) - x_2.Range))] 3,Ow A c 3 1 ((far ++ ([w64 (((seen[k_3]?.getD Plot.zero).Range) - x_2.Range)])).map ic),Bk b7 #[.i r2] 3,Ow A_2 c_2 3 1 ((turns ++ ([r2])).map ic),Bk b8 #[.i (w64 (((seen[k_3]?.getD Plot.zero).Time) - x_2.Time))] 3,Ow A_3 c_3 3 1 ((times ++ ([w64 (((seen[k_3]?.getD Plot.zero).Time) - x_2.Time)])).map ic),Bk b5 (Plot.c (seen[k_3]?.getD Plot.zero)) 89,Bk b4 (Plot.c x_2) 89,Bk b2 (BiasOffset.c BiasOffset.zero) 104,Bk b1 (BiasOffset.c BiasOffset.zero) 104] (fun _ hM=>hM) (TE.nb (TE.next (TC.region (TL.r 2 [] [(64,.i (w64 ((k_3:Int) + 1)))] {} (TL.done rfl (TE.conv [Ow A_3 c_3 3 1 ((times ++ ([w64 (((seen[k_3]?.getD Plot.zero).Time) - x_2.Time)])).map ic),Ow A_2 c_2 3 1 ((turns ++ ([r2])).map ic),Ow A c 3 1 ((far ++ ([w64 (((seen[k_3]?.getD Plot.zero).Range) - x_2.Range)])).map ic),Bk b2 (BiasOffset.c BiasOffset.zero) 104,Bk b1 (BiasOffset.c BiasOffset.zero) 104,Bk b6 #[.i (w64 (((seen[k_3]?.getD Plot.zero).Range) - x_2.Range))] 3,Bk b7 #[.i r2] 3,Bk b8 #[.i (w64 (((seen[k_3]?.getD Plot.zero).Time) - x_2.Time))] 3,Bk b5 (Plot.c (seen[k_3]?.getD Plot.zero)) 89,Bk b4 (Plot.c x_2) 89] (fun _ hM=>hM.perm (px [5,3,1,8,9,0,2,4,6,7])) (TE.rw 64 (.i (w64 ((k_3:Int) + 1))) (.i ((k_3 + 1:Nat):Int)) Kr (w64_cast k_3 (by omega)) (TE.again (x:=(k_3,far,turns,times,A_far,c_far,A_turns,c_turns,A_times,c_times)) (k_3 + 1,(far ++ ([w64 (((seen[k_3]?.getD Plot.zero).Range) - x_2.Range)])),(turns ++ ([r2])),(times ++ ([w64 (((seen[k_3]?.getD Plot.zero).Time) - x_2.Time)])),A,c,A_2,c_2,A_3,c_3) ⟨by omega,hI_3.trans (by subst hr2;rw [hd_3];exact rfl),sl,sl,sl,sl⟩ (mN hlt_3) Kr (sb 31)))))))))
            · have hd_3:=dropN h7
              refine TC.exit (TE.et (TE.et (TE.exit_same ?_)))
              exact TE.cut (far,turns,times,A_far,c_far,A_turns,c_turns,A_times,c_times) (⟨hI_3.trans (by rw [hd_3];exact rfl),sl,sl,sl,sl⟩) Kr (sb 31)
          · rintro ⟨far_2,turns_2,times_2,A_far_2,c_far_2,A_turns_2,c_turns_2,A_times_2,c_times_2⟩ ⟨hJ_3,hl_far_2,hl_turns_2,hl_times_2,hl_ov2_0⟩
            refine TE.nr (TL.r 1 [] [(98,.slice A_far_2 far_2.length c_far_2)] {} (TL.conv [Ow A_far_2 c_far_2 3 1 (far_2.map ic),Ow A_times_2 c_times_2 3 1 (times_2.map ic),Ow A_turns_2 c_turns_2 3 1 (turns_2.map ic),Bk b2 (BiasOffset.c BiasOffset.zero) 104,Bk b1 (BiasOffset.c BiasOffset.zero) 104] (fun _ hM=>hM.perm (px [2,0,1,3,4])) (TL.callM (Γ:=(List Int) × Int) (fun g=>.i g.2) (fun g=>[.inr (Fact (g.1.length=far_2.length ∧ g.1=far_2.mergeSort (fun x y=>decide (x ≤ y)) ∧ g.2=(far_2.mergeSort (fun x y=>decide (x ≤ y)))[(far_2.length - 1) / 2]?.getD 0)),Ow A_far_2 c_far_2 3 1 (g.1.map ic)]) [Ow A_far_2 c_far_2 3 1 (far_2.map ic)] [Ow A_times_2 c_times_2 3 1 (times_2.map ic),Ow A_turns_2 c_turns_2 3 1 (turns_2.map ic),Bk b2 (BiasOffset.c BiasOffset.zero) 104,Bk b1 (BiasOffset.c BiasOffset.zero) 104] (some 99) (fun g=>[(4,.p0 b1),(6,.p0 b2),(13,.slice A_turns_2 turns_2.length c_turns_2),(14,.slice A_times_2 times_2.length c_times_2),(99,.i g.2)]) (fun w hM=>medi_w A_far_2 c_far_2 far_2 w hM.pass sg) Kr (fun g=>Kr) ?_)))
            rintro ⟨r3,r4⟩
            refine TL.conv [.inr (Fact (r3.length=far_2.length ∧ r3=far_2.mergeSort (fun x y=>decide (x ≤ y)) ∧ r4=(far_2.mergeSort (fun x y=>decide (x ≤ y)))[(far_2.length - 1) / 2]?.getD 0)),Ow A_far_2 c_far_2 3 1 (r3.map ic),Ow A_times_2 c_times_2 3 1 (times_2.map ic),Ow A_turns_2 c_turns_2 3 1 (turns_2.map ic),Bk b2 (BiasOffset.c BiasOffset.zero) 104,Bk b1 (BiasOffset.c BiasOffset.zero) 104] (fun _ hM=>hM) (TL.know (fun w hM=>hM.fact_at 0 rfl) (fun hp_medi=>TL.forget [Ow A_far_2 c_far_2 3 1 (r3.map ic),Ow A_times_2 c_times_2 3 1 (times_2.map ic),Ow A_turns_2 c_turns_2 3 1 (turns_2.map ic),Bk b2 (BiasOffset.c BiasOffset.zero) 104,Bk b1 (BiasOffset.c BiasOffset.zero) 104] (.cons _ (List.Sublist.refl _)) ?_))
            have hl_r3:r3.length=far_2.length:=hp_medi.1
            have hr3:far_2.mergeSort (fun x y=>decide (x ≤ y))=r3:=(hp_medi.2.1).symm
            have hr4:(far_2.mergeSort (fun x y=>decide (x ≤ y)))[(far_2.length - 1) / 2]?.getD 0=r4:=(hp_medi.2.2).symm
            refine TL.r 3 [] [(100,.slice A_turns_2 turns_2.length c_turns_2)] {} (TL.conv [Ow A_turns_2 c_turns_2 3 1 (turns_2.map ic),Ow A_far_2 c_far_2 3 1 (r3.map ic),Ow A_times_2 c_times_2 3 1 (times_2.map ic),Bk b2 (BiasOffset.c BiasOffset.zero) 104,Bk b1 (BiasOffset.c BiasOffset.zero) 104] (fun _ hM=>hM.perm (px [2,0,1,3,4])) (TL.callM (Γ:=(List Int) × Int) (fun g=>.i g.2) (fun g=>[.inr (Fact (g.1.length=turns_2.length ∧ g.1=turns_2.mergeSort (fun x y=>decide (x ≤ y)) ∧ g.2=(turns_2.mergeSort (fun x y=>decide (x ≤ y)))[(turns_2.length - 1) / 2]?.getD 0)),Ow A_turns_2 c_turns_2 3 1 (g.1.map ic)]) [Ow A_turns_2 c_turns_2 3 1 (turns_2.map ic)] [Ow A_far_2 c_far_2 3 1 (r3.map ic),Ow A_times_2 c_times_2 3 1 (times_2.map ic),Bk b2 (BiasOffset.c BiasOffset.zero) 104,Bk b1 (BiasOffset.c BiasOffset.zero) 104] (some 101) (fun g=>[(4,.p0 b1),(6,.p0 b2),(14,.slice A_times_2 times_2.length c_times_2),(99,.i r4),(101,.i g.2)]) (fun w hM=>medi_w A_turns_2 c_turns_2 turns_2 w hM.pass sg) Kr (fun g=>Kr) ?_))
            rintro ⟨r5,r6⟩
            refine TL.conv [.inr (Fact (r5.length=turns_2.length ∧ r5=turns_2.mergeSort (fun x y=>decide (x ≤ y)) ∧ r6=(turns_2.mergeSort (fun x y=>decide (x ≤ y)))[(turns_2.length - 1) / 2]?.getD 0)),Ow A_turns_2 c_turns_2 3 1 (r5.map ic),Ow A_far_2 c_far_2 3 1 (r3.map ic),Ow A_times_2 c_times_2 3 1 (times_2.map ic),Bk b2 (BiasOffset.c BiasOffset.zero) 104,Bk b1 (BiasOffset.c BiasOffset.zero) 104] (fun _ hM=>hM) (TL.know (fun w hM=>hM.fact_at 0 rfl) (fun hp_medi=>TL.forget [Ow A_turns_2 c_turns_2 3 1 (r5.map ic),Ow A_far_2 c_far_2 3 1 (r3.map ic),Ow A_times_2 c_times_2 3 1 (times_2.map ic),Bk b2 (BiasOffset.c BiasOffset.zero) 104,Bk b1 (BiasOffset.c BiasOffset.zero) 104] (.cons _ (List.Sublist.refl _)) ?_))
            have hl_r5:r5.length=turns_2.length:=hp_medi.1
            have hr5:turns_2.mergeSort (fun x y=>decide (x ≤ y))=r5:=(hp_medi.2.1).symm
            have hr6:(turns_2.mergeSort (fun x y=>decide (x ≤ y)))[(turns_2.length - 1) / 2]?.getD 0=r6:=(hp_medi.2.2).symm
            refine TL.r 5 [] [(102,.slice A_times_2 times_2.length c_times_2)] {} (TL.conv [Ow A_times_2 c_times_2 3 1 (times_2.map ic),Ow A_turns_2 c_turns_2 3 1 (r5.map ic),Ow A_far_2 c_far_2 3 1 (r3.map ic),Bk b2 (BiasOffset.c BiasOffset.zero) 104,Bk b1 (BiasOffset.c BiasOffset.zero) 104] (fun _ hM=>hM.perm (px [2,0,1,3,4])) (TL.callM (Γ:=(List Int) × Int) (fun g=>.i g.2) (fun g=>[.inr (Fact (g.1.length=times_2.length ∧ g.1=times_2.mergeSort (fun x y=>decide (x ≤ y)) ∧ g.2=(times_2.mergeSort (fun x y=>decide (x ≤ y)))[(times_2.length - 1) / 2]?.getD 0)),Ow A_times_2 c_times_2 3 1 (g.1.map ic)]) [Ow A_times_2 c_times_2 3 1 (times_2.map ic)] [Ow A_turns_2 c_turns_2 3 1 (r5.map ic),Ow A_far_2 c_far_2 3 1 (r3.map ic),Bk b2 (BiasOffset.c BiasOffset.zero) 104,Bk b1 (BiasOffset.c BiasOffset.zero) 104] (some 103) (fun g=>[(4,.p0 b1),(6,.p0 b2),(99,.i r4),(101,.i r6),(103,.i g.2)]) (fun w hM=>medi_w A_times_2 c_times_2 times_2 w hM.pass sg) Kr (fun g=>Kr) ?_))
            rintro ⟨r7,r8⟩
            refine TL.conv [.inr (Fact (r7.length=times_2.length ∧ r7=times_2.mergeSort (fun x y=>decide (x ≤ y)) ∧ r8=(times_2.mergeSort (fun x y=>decide (x ≤ y)))[(times_2.length - 1) / 2]?.getD 0)),Ow A_times_2 c_times_2 3 1 (r7.map ic),Ow A_turns_2 c_turns_2 3 1 (r5.map ic),Ow A_far_2 c_far_2 3 1 (r3.map ic),Bk b2 (BiasOffset.c BiasOffset.zero) 104,Bk b1 (BiasOffset.c BiasOffset.zero) 104] (fun _ hM=>hM) (TL.know (fun w hM=>hM.fact_at 0 rfl) (fun hp_medi=>TL.forget [Ow A_times_2 c_times_2 3 1 (r7.map ic),Ow A_turns_2 c_turns_2 3 1 (r5.map ic),Ow A_far_2 c_far_2 3 1 (r3.map ic),Bk b2 (BiasOffset.c BiasOffset.zero) 104,Bk b1 (BiasOffset.c BiasOffset.zero) 104] (.cons _ (List.Sublist.refl _)) ?_))
            have hl_r7:r7.length=times_2.length:=hp_medi.1
            have hr7:times_2.mergeSort (fun x y=>decide (x ≤ y))=r7:=(hp_medi.2.1).symm
            have hr8:(times_2.mergeSort (fun x y=>decide (x ≤ y)))[(times_2.length - 1) / 2]?.getD 0=r8:=(hp_medi.2.2).symm
            refine TL.r 7 [] [(104,BiasOffset.v (⟨r4,r6,r8⟩:BiasOffset))] {} (TL.nw 18 (fun b9=>.p0 b9) (fun b9=>Bk b9 (BiasOffset.c BiasOffset.zero) 104) (fun b9=>{}) (fun b9=>TL.s 0 (Bk b9 (BiasOffset.c (⟨r4,r6,r8⟩:BiasOffset)) 104) (fun _=>{}) (TL.ns (TC.sr (TL.r 1 [0] [(105,BiasOffset.v (⟨r4,r6,r8⟩:BiasOffset))] {} (TL.c 106 (bias_Check (⟨r4,r6,r8⟩:BiasOffset)) (fun r9=>.i r9) (fun w _=>bias_Check_w (⟨r4,r6,r8⟩:BiasOffset) w) {} (fun r9 hr9=>TL.r 3 [] [(19,.i r9)] {} (TL.nr (TL.r 2 [] [(108,.b (r9 != 0))] {} (TL.next rfl (TC.cond (r9 != 0) rfl Kr (fun h8=>?_) (fun h8=>?_))))))))))))
            · exact TC.sr (TL.r 2 [4] [(109,BiasOffset.v (⟨0,0,0⟩:BiasOffset)),(110,.i r9)] {} (TL.s 5 (Bk b1 (BiasOffset.c BiasOffset.zero) 104) (fun _=>{}) (TL.r 4 [] [(5,.i r9)] {} (TL.next rfl (TC.ret (TE.rt (TE.ret [5] (.tuple #[BiasOffset.v (⟨0,0,0⟩:BiasOffset),.i r9]) {} (by unfold bias_Estimate;refine eS (a:=((⟨0,0,0⟩:BiasOffset),r9)) (fun (z:BiasOffset × Int)=>(.tuple #[BiasOffset.v z.1,.i z.2]:Value)) ?_;subst hr3 hr4 hr5 hr6 hr7 hr8 hr9;exact cond_f h1 (elim_l (hR.symm.trans hJ) (cond_f h5 (cond_f h6 (bindv_eq (hR_3.symm.trans hJ_3) (cond_t h8 (rfl))))))))))))))
            · exact TC.snr (TL.r 1 [0] [(111,BiasOffset.v (⟨r4,r6,r8⟩:BiasOffset))] {} (TL.s 5 (Bk b1 (BiasOffset.c (⟨r4,r6,r8⟩:BiasOffset)) 104) (fun _=>{}) (TL.r 3 [] [(5,.i 0)] {} (TL.next rfl (TC.ret (TE.ret [5] (.tuple #[BiasOffset.v (⟨r4,r6,r8⟩:BiasOffset),.i 0]) {} (by unfold bias_Estimate;refine eS (a:=((⟨r4,r6,r8⟩:BiasOffset),0)) (fun (z:BiasOffset × Int)=>(.tuple #[BiasOffset.v z.1,.i z.2]:Value)) ?_;subst hr3 hr4 hr5 hr6 hr7 hr8 hr9;exact cond_f h1 (elim_l (hR.symm.trans hJ) (cond_f h5 (cond_f h6 (bindv_eq (hR_3.symm.trans hJ_3) (cond_f h8 (rfl)))))))))))))
end Go.Sky
end
