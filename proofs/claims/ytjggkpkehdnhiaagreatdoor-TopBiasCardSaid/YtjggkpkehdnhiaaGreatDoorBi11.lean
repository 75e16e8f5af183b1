/- Lemmas toward the given statement (part 11 of 21): Sca Fli Ta Flt Strs FltB Flo Flob. Each theorem states its own conditions; nothing is assumed beyond them. -/
import Derived.Test.YtjggkpkehdnhiaaGreatDoorBi10
import Derived.Test.YtjggkpkehdnhiaaGreatDoorBi02
import Derived.Laws.Externs
import Derived.Laws.BytesString
import Derived.Laws.Cells
import Derived.Laws.FloatBits
import Derived.Laws.FloatArith
section
namespace Go.Sky
open Go Go.Eng Go.Glue Go.Srt
def ids (l:List followed):List Int:=l.map fun x=>x.f.Track.ID
def Vals (l:List followed):Prop:=∀ x ∈ l,x.f.In
theorem vals_cons {l:List followed} {x:followed} (h:Vals l) (hx:x.f.In):Vals (x :: l):=fun y hy=>by
  rcases List.mem_cons.1 hy with rfl | hy
  · exact hx
  · exact h y hy
theorem update_in {f:FilterTrack} {s:Spot} {a p v:Int} (h:(filter_Update f s a p v).2=0):(filter_Update f s a p v).1.In ∧ (filter_Update f s a p v).1.Track.ID=f.Track.ID:=by
  unfold filter_Update at h ⊢
  simp only [ite_of_cond] at h ⊢
  by_cases h1:(filter_Check f != 0)=true
  · rw [if_pos h1] at h;simp at h h1;exact absurd h h1
  rw [if_neg h1] at h ⊢
  by_cases h2:(radar_CheckSpot s != 0)=true
  · rw [if_pos h2] at h;simp at h h2;exact absurd h h2
  rw [if_neg h2] at h ⊢
  by_cases h3:filter_out p 0 256=true
  · rw [if_pos h3] at h;cases h
  rw [if_neg h3] at h ⊢
  by_cases h4:filter_out v 0 256=true
  · rw [if_pos h4] at h;cases h
  rw [if_neg h4] at h ⊢
  by_cases h5:decide (w64 (s.Time - f.Last.Time) ≤ 0)=true
  · rw [if_pos h5] at h;cases h
  rw [if_neg h5] at h ⊢
  by_cases h6:((filter_Predict f s.Time a).2 != 0)=true
  · rw [if_pos h6] at h;simp at h h6;exact absurd h h6
  rw [if_neg h6] at h ⊢
  have hk:=predict_keep (f:=f) (t:=s.Time) (a:=a) (by simpa using h6)
  generalize filter_Predict f s.Time a=r5 at h hk ⊢
  split at h
  · cases h
  · rename_i h7
    rw [if_neg h7]
    split at h
    · rename_i h8
      rw [if_pos h8]
      split at h
      · cases h
      · rename_i h9
        rw [if_neg h9]
        exact ⟨check_iff.1 (by simpa using h9),hk.2⟩
    · rename_i h8
      rw [if_neg h8]
      split at h
      · cases h
      · rename_i h9
        rw [if_neg h9]
        exact ⟨check_iff.1 (by simpa using h9),hk.2⟩
theorem hit_in {f:FilterTrack} (h:f.In):(coast_Hit f).1.In ∧ (coast_Hit f).1.Track.ID=f.Track.ID:=by
  unfold coast_Hit
  rw [check_iff.2 h]
  obtain ⟨a1,a2,a3,a4,a5,⟨a6,a7,a8⟩,⟨a9,a10⟩,a11,a12⟩:=h
  cases f.Track.State == 2
  · exact ⟨⟨a1,a2,a3,a4,a5,⟨a6,a7,(show (0:Int) ≤ 0 by decide)⟩,⟨a9,a10⟩,a11,a12⟩,rfl⟩
  · exact ⟨⟨a1,a2,a3,a4,a5,⟨a6,a7,(show (0:Int) ≤ 0 by decide)⟩,⟨(show (0:Int) ≤ 1 by decide),(show (1:Int) ≤ 2 by decide)⟩,a11,a12⟩,rfl⟩
theorem miss_in {f:FilterTrack} {n:Int} (h:(coast_Miss f n).2.2=0):(coast_Miss f n).1.In ∧ (coast_Miss f n).1.Track.ID=f.Track.ID:=by
  unfold coast_Miss at h ⊢
  simp only [ite_of_cond] at h ⊢
  by_cases h1:(filter_Check f != 0)=true
  · rw [if_pos h1] at h;simp at h h1;exact absurd h h1
  rw [if_neg h1] at h ⊢
  obtain ⟨a1,a2,a3,a4,a5,⟨a6,a7,a8⟩,⟨a9,a10⟩,a11,a12⟩:f.In:=check_iff.1 (by simpa using h1)
  by_cases h2:(decide (n < 0) || decide (n > 100))=true
  · rw [if_pos h2] at h;cases h
  rw [if_neg h2] at h ⊢
  have hm:f.Track.Misses < 101 → 0 ≤ w64 (f.Track.Misses + 1):=fun hh=>by rw [w64_id (by omega)];omega
  split
  · rename_i h3
    have h3:=hm (of_decide_eq_true h3)
    split
    · exact ⟨⟨a1,a2,a3,a4,a5,⟨a6,a7,h3⟩,⟨(show (0:Int) ≤ 2 by decide),(show (2:Int) ≤ 2 by decide)⟩,a11,a12⟩,rfl⟩
    · exact ⟨⟨a1,a2,a3,a4,a5,⟨a6,a7,h3⟩,⟨a9,a10⟩,a11,a12⟩,rfl⟩
  · split
    · exact ⟨⟨a1,a2,a3,a4,a5,⟨a6,a7,(show (0:Int) ≤ 101 by decide)⟩,⟨(show (0:Int) ≤ 2 by decide),(show (2:Int) ≤ 2 by decide)⟩,a11,a12⟩,rfl⟩
    · exact ⟨⟨a1,a2,a3,a4,a5,⟨a6,a7,(show (0:Int) ≤ 101 by decide)⟩,⟨a9,a10⟩,a11,a12⟩,rfl⟩
theorem scan_al (t:Tracker) (time:Int):∀ (xs:List followed) (k:Nat) (tr:List Track) (al:List followed),∃ ys,ys.Sublist xs ∧ (tracker_Tracker_Scan_L1 t time xs k tr al).2=al ++ ys
  | [],_,tr,al=>⟨[],.slnil,by unfold tracker_Tracker_Scan_L1;rw [List.append_nil]⟩
  | x :: xs,k,tr,al=>by
    unfold tracker_Tracker_Scan_L1
    simp only
    cases ((filter_Predict x.f time t.rules.Accel).2 == 0) with
    | true =>
      obtain ⟨ys,h1,h2⟩:=scan_al t time xs (k + 1) (tr ++ [(filter_Predict x.f time t.rules.Accel).1.Track]) (al ++ [x])
      exact ⟨x :: ys,h1.cons_cons x,by rw [cond_true,h2,List.append_assoc];rfl⟩
    | false =>
      obtain ⟨ys,h1,h2⟩:=scan_al t time xs (k + 1) tr al
      exact ⟨ys,h1.cons x,by rw [cond_false,h2]⟩
theorem scan_L2 (t:Tracker) (r2:List Spot × Int) (r5:List Int × Int × Int):∀ (xs:List followed) (k:Nat) (used:List Bool) (out:List followed),∃ ys,(tracker_Tracker_Scan_L2 t r2 r5 xs k used out).2=out ++ ys ∧ (ids ys).Sublist (ids xs) ∧ Vals ys
  | [],_,used,out=>⟨[],by unfold tracker_Tracker_Scan_L2;rw [List.append_nil],.slnil,fun _ h=>by cases h⟩
  | x :: xs,k,used,out=>by
    unfold tracker_Tracker_Scan_L2
    have key:∀ p:List Bool × followed,(p.2.hit=true → p.2.f.In) → p.2.f.Track.ID=x.f.Track.ID → ∃ ys,(bindv p fun (used_3,x_3) =>
        cond (!x_3.hit) (
          let r8:=coast_Miss x_3.f t.rules.Misses
          cond ((r8.2.2 != 0) || r8.2.1) (
            tracker_Tracker_Scan_L2 t r2 r5 xs (k + 1) used_3 out) (
            tracker_Tracker_Scan_L2 t r2 r5 xs (k + 1) used_3 (out ++ ([(⟨r8.1,x_3.history,x_3.hit⟩:followed)])))) (
          tracker_Tracker_Scan_L2 t r2 r5 xs (k + 1) used_3 (out ++ ([x_3])))).2=out ++ ys ∧ (ids ys).Sublist (ids (x :: xs)) ∧ Vals ys:=by
      rintro ⟨u,y⟩ h1 h2
      simp only at h1 h2
      unfold bindv
      simp only
      have put:∀ z:followed,z.f.In → z.f.Track.ID=x.f.Track.ID → ∃ ys,(tracker_Tracker_Scan_L2 t r2 r5 xs (k + 1) u (out ++ [z])).2=out ++ ys ∧ (ids ys).Sublist (ids (x :: xs)) ∧ Vals ys:=fun z hz hz2=>by
        obtain ⟨ys,g1,g2,g3⟩:=scan_L2 t r2 r5 xs (k + 1) u (out ++ [z])
        refine ⟨z :: ys,by rw [g1,List.append_assoc];rfl,?_,vals_cons g3 hz⟩
        show (z.f.Track.ID :: ids ys).Sublist (x.f.Track.ID :: ids xs)
        rw [hz2];exact g2.cons_cons _
      cases hy:y.hit with
      | true=>exact put y (h1 hy) h2
      | false =>
        simp only [Bool.not_false,cond_true]
        cases hm:((coast_Miss y.f t.rules.Misses).2.2 != 0) || (coast_Miss y.f t.rules.Misses).2.1 with
        | true =>
          obtain ⟨ys,g1,g2,g3⟩:=scan_L2 t r2 r5 xs (k + 1) u out
          exact ⟨ys,g1,g2.cons _,g3⟩
        | false =>
          have hm0:(coast_Miss y.f t.rules.Misses).2.2=0:=by simp at hm;exact hm.1
          have:=miss_in hm0
          exact put ⟨(coast_Miss y.f t.rules.Misses).1,y.history,false⟩ this.1 (this.2.trans h2)
    refine key _ ?_ ?_
    · cases decide ((r5.1[k]?.getD 0) ≥ 0) with
      | false=>intro h;cases h
      | true =>
        simp only [cond_true]
        cases hu:(filter_Update x.f (r2.1[(r5.1[k]?.getD 0).toNat]?.getD Spot.zero) t.rules.Accel t.rules.Place t.rules.Speed).2 == 0 with
        | true=>intro _;exact (hit_in (update_in (by simpa using hu)).1).1
        | false=>intro h;cases h
    · cases decide ((r5.1[k]?.getD 0) ≥ 0) with
      | false=>rfl
      | true =>
        simp only [cond_true]
        cases hu:(filter_Update x.f (r2.1[(r5.1[k]?.getD 0).toNat]?.getD Spot.zero) t.rules.Accel t.rules.Place t.rules.Speed).2 == 0 with
        | true=>have h:=update_in (show _=0 by simpa using hu);exact (hit_in h.1).2.trans h.2
        | false=>rfl
theorem scan_L3len (used:List Bool):∀ (xs:List Spot) (k:Nat) (next:Int) (out:List followed),out.length ≤ 32 → (tracker_Tracker_Scan_L3 used xs k next out).2.length ≤ 32
  | [],_,_,_,h=>h
  | x :: xs,k,next,out,h=>by
    unfold tracker_Tracker_Scan_L3
    cases hc:(((used[k]?.getD false)) || (decide ((out.length:Int) ≥ 32))) with
    | true=>exact scan_L3len used xs (k + 1) next out h
    | false =>
      have h1:¬ (out.length:Int) ≥ 32:=by simp at hc ⊢;exact hc.2
      exact scan_L3len used xs (k + 1) (w64 (next + 1)) _ (by rw [List.length_append,List.length_singleton];omega)
theorem begin_in {s:Spot} (h:s.In) (n:Int) (hn:0 ≤ n):FilterTrack.In ⟨⟨n,(filter_Begin s).1.Track.State,(filter_Begin s).1.Track.Time,(filter_Begin s).1.Track.At,(filter_Begin s).1.Track.Speed,(filter_Begin s).1.Track.Height,(filter_Begin s).1.Track.Rate,(filter_Begin s).1.Track.Radius,(filter_Begin s).1.Track.Code,(filter_Begin s).1.Track.Hits,(filter_Begin s).1.Track.Misses⟩,(filter_Begin s).1.Slack,(filter_Begin s).1.Last⟩:=by
  unfold filter_Begin
  rw [checkSpot_iff.2 h]
  obtain ⟨b1,b2,b3,b4,b5⟩:=h
  refine ⟨⟨b1,b2,b3,b4,b5.1,?_⟩,(show (-12800:Int) ≤ 0 ∧ (0:Int) ≤ 12800 by decide),(show (-12800:Int) ≤ 0 ∧ (0:Int) ≤ 12800 by decide),(show (-3200:Int) ≤ 0 ∧ (0:Int) ≤ 3200 by decide),(show (0:Int) ≤ 6400 ∧ (6400:Int) ≤ 409600 by decide),⟨hn,(show (0:Int) ≤ 1 by decide),Int.le_refl _⟩,(show (0:Int) ≤ 0 ∧ (0:Int) ≤ 2 by decide),⟨b1,b2,b3,b4,b5⟩,Int.le_refl _⟩
  show s.Error ≤ 4000000
  omega
theorem scan_L3 (used:List Bool):∀ (xs:List Spot) (k:Nat) (next:Int) (out:List followed),(∀ s ∈ xs,s.In) → 0 ≤ next → next + xs.length ≤ 1000000000 →
    ∃ (ys:List followed) (m:Nat),tracker_Tracker_Scan_L3 used xs k next out=(next + m,out ++ ys) ∧ Vals ys ∧ (∀ i ∈ ids ys,next ≤ i ∧ i < next + m) ∧ (ids ys).Pairwise (· < ·) ∧ m ≤ xs.length
  | [],_,next,out,_,_,_=>⟨[],0,by unfold tracker_Tracker_Scan_L3;simp,(fun _ h=>by cases h),(fun _ h=>by cases h),.nil,Nat.le_refl _⟩
  | x :: xs,k,next,out,h,h0,hn=>by
    rw [List.length_cons] at hn
    unfold tracker_Tracker_Scan_L3
    have hx:=h x (List.mem_cons_self ..)
    have hxs:=fun s hs=>h s (List.mem_cons_of_mem _ hs)
    cases hc:(((used[k]?.getD false)) || (decide ((out.length:Int) ≥ 32))) with
    | true =>
      obtain ⟨ys,m,g1,g2,g3,g4,g5⟩:=scan_L3 used xs (k + 1) next out hxs h0 (by omega)
      exact ⟨ys,m,g1,g2,g3,g4,by rw [List.length_cons];omega⟩
    | false =>
      show ∃ ys m,tracker_Tracker_Scan_L3 used xs (k + 1) (w64 (next + 1)) _=_ ∧ _
      rw [w64_id (by omega)]
      obtain ⟨ys,m,g1,g2,g3,g4,g5⟩:=scan_L3 used xs (k + 1) (next + 1) _ hxs (by omega) (by omega)
      refine ⟨_ :: ys,m + 1,?_,vals_cons (x:=⟨_,⟨0,0⟩,true⟩) g2 (begin_in hx next h0),?_,?_,by rw [List.length_cons];omega⟩
      · rw [g1,List.append_assoc]
        refine Prod.ext ?_ rfl
        show next + 1 + (m:Int)=next + ((m + 1:Nat):Int)
        omega
      · intro i hi
        rcases List.mem_cons.1 hi with hi | hi
        · have hi:i=next:=hi
          omega
        · have:=g3 i hi;omega
      · refine List.pairwise_cons.2 ⟨fun i hi=>?_,g4⟩
        show next < i
        have:=g3 i hi;omega
theorem confirm_in (t:Tracker):∀ (xs:List followed) (k:Nat) (out:List followed),Vals xs → ∃ ys,tracker_Tracker_confirm_L1 t xs k out=out ++ ys ∧ (ids ys).Sublist (ids xs) ∧ Vals ys
  | [],_,out,_=>⟨[],by unfold tracker_Tracker_confirm_L1;rw [List.append_nil],.slnil,fun _ h=>by cases h⟩
  | x :: xs,k,out,hv=>by
    have hx:=hv x (List.mem_cons_self ..)
    have hxs:Vals xs:=fun s hs=>hv s (List.mem_cons_of_mem _ hs)
    have put:∀ z:followed,z.f.In → z.f.Track.ID=x.f.Track.ID → ∃ ys,tracker_Tracker_confirm_L1 t xs (k + 1) (out ++ [z])=out ++ ys ∧ (ids ys).Sublist (ids (x :: xs)) ∧ Vals ys:=fun z hz hz2=>by
      obtain ⟨ys,g1,g2,g3⟩:=confirm_in t xs (k + 1) (out ++ [z]) hxs
      refine ⟨z :: ys,by rw [g1,List.append_assoc];rfl,?_,vals_cons g3 hz⟩
      show (z.f.Track.ID :: ids ys).Sublist (x.f.Track.ID :: ids xs)
      rw [hz2];exact g2.cons_cons _
    unfold tracker_Tracker_confirm_L1
    simp only [ite_of_cond]
    split
    · split
      · obtain ⟨ys,g1,g2,g3⟩:=confirm_in t xs (k + 1) out hxs
        exact ⟨ys,g1,g2.cons _,g3⟩
      · split
        · obtain ⟨a1,a2,a3,a4,a5,a6,_,a11,a12⟩:=hx
          exact put _ ⟨a1,a2,a3,a4,a5,a6,⟨(show (0:Int) ≤ 1 by decide),(show (1:Int) ≤ 2 by decide)⟩,a11,a12⟩ rfl
        · exact put _ hx rfl
    · exact put _ hx rfl
theorem scan_out:∀ (xs:List followed) (k:Nat) (out:List Track),tracker_Tracker_Scan_L4 xs k out=out ++ xs.map fun x=>x.f.Track
  | [],_,out=>by unfold tracker_Tracker_Scan_L4;rw [List.map_nil,List.append_nil]
  | x :: xs,k,out=>by unfold tracker_Tracker_Scan_L4;rw [scan_out xs (k + 1)];simp
theorem scan_cases {t:Tracker} {l:List Spot} {time:Int} {r:List Track × Int × Tracker} (hr:tracker_Tracker_Scan t l time=r) :
    (r.2.1 ≠ 0 ∧ r.1=[] ∧ r.2.2=t) ∨ (r.2.1=0 ∧ tracker_Tracker_check t l time=0 ∧ r.1=r.2.2.all.map (fun x=>x.f.Track) ∧ r.2.2.rules=t.rules ∧ r.2.2.last=time ∧ (t.all.length ≤ 32 → r.2.2.all.length ≤ 32) ∧
      (0 ≤ t.next → t.next ≤ 900000000 → (ids t.all).Pairwise (· < ·) → (∀ i ∈ ids t.all,i < t.next) → t.all.length ≤ 32 → Vals r.2.2.all ∧ (ids r.2.2.all).Pairwise (· < ·) ∧ (∀ i ∈ ids r.2.2.all,i < r.2.2.next) ∧ t.next ≤ r.2.2.next ∧ r.2.2.next ≤ t.next + 32)):=by
  unfold tracker_Tracker_Scan at hr
  simp only at hr
  cases hc:(tracker_Tracker_check t l time != 0) with
  | true =>
    rw [hc,cond_true] at hr
    subst hr
    exact .inl ⟨by simpa using hc,rfl,rfl⟩
  | false =>
    have hc0:tracker_Tracker_check t l time=0:=by simpa using hc
    have hs:=check_ok.1 hc0
    have hsp:=spots_in (r:=fuse_Spots l 500) hs.1 hs.2.2.2 rfl
    rw [hc,cond_false] at hr
    generalize fuse_Spots l 500=r2 at hr hsp
    unfold bindv at hr
    generalize (cond (decide (t.last ≥ 0)) (imin 60000 (w64 (500 + w64 (200 * w64 (time - t.last))))) 60000)=band at hr
    simp only at hr
    obtain ⟨al,ha,ha2⟩:=scan_al t time t.all 0 [] []
    generalize tracker_Tracker_Scan_L1 t time t.all 0 [] []=e1 at hr ha2
    obtain ⟨tr,al2⟩:=e1
    simp only [List.nil_append] at ha2 hr
    subst ha2
    generalize assign_Best (gate_Costs tr r2.1 band).1 2147483648=r5 at hr
    obtain ⟨ys,hy1,hy2,hy3⟩:=scan_L2 t r2 r5 al2 0 (List.replicate ((r2.1.length:Int).toNat) false) []
    generalize tracker_Tracker_Scan_L2 t r2 r5 al2 0 (List.replicate ((r2.1.length:Int).toNat) false) []=e2 at hr hy1
    obtain ⟨used,xs2⟩:=e2
    simp only [List.nil_append] at hy1 hr
    subst hy1
    have hal:al2.length ≤ t.all.length:=ha.length_le
    have hxl:xs2.length ≤ al2.length:=by have:=hy2.length_le;unfold ids at this;simpa using this
    have h3:=scan_L3len used r2.1 0 t.next xs2
    have h3b:=scan_L3 used r2.1 0 t.next xs2 (fun s hs=>(hsp.2 s hs).1)
    generalize tracker_Tracker_Scan_L3 used r2.1 0 t.next xs2=e3 at hr h3 h3b
    obtain ⟨next,xs4⟩:=e3
    simp only at hr h3 h3b
    generalize hcf:tracker_Tracker_confirm ⟨t.rules,xs4,next,time⟩=r10 at hr
    have hcl:=confirm_len hcf
    have hcv:=confirm_in ⟨t.rules,xs4,next,time⟩ xs4 0 []
    unfold tracker_Tracker_confirm bindv at hcf
    simp only at hcf hcl
    rw [← hcf] at hcl hr
    clear hcf
    generalize tracker_Tracker_confirm_L1 ⟨t.rules,xs4,next,time⟩ xs4 0 []=x5 at hr hcl hcv
    simp only at hcl
    refine .inr ?_
    rw [scan_out] at hr
    have hlen:t.all.length ≤ 32 → x5.length ≤ 32:=fun h=>by have:=h3 (by omega);omega
    generalize hf:tracker_Tracker_fuse ⟨t.rules,x5,next,time⟩ time=r11 at hr
    subst hr
    rw [List.nil_append]
    have hx5:t.all.length ≤ 32 → ∃ now,r11=⟨t.rules,x5.filter (fun x=>!tracker_Tracker_fuse_1 x time now),next,time⟩:=fun h=>fuse_all hf (by have:=hlen h;show x5.length ≤ 64;omega)
    have hrl:r11.rules=t.rules ∧ r11.last=time:=by subst hf;exact ⟨rfl,rfl⟩
    refine ⟨rfl,hc0,rfl,hrl.1,hrl.2,fun h=>?_,fun g0 g1 g2 g3 g4=>?_⟩
    · obtain ⟨now,rfl⟩:=hx5 h
      exact Nat.le_trans (List.length_filter_le ..) (hlen h)
    · obtain ⟨now,rfl⟩:=hx5 g4
      obtain ⟨zs,m,p1,p2,p3,p4,p5⟩:=h3b g0 (by have:=hsp.1;omega)
      simp only [Prod.mk.injEq] at p1
      obtain ⟨rfl,rfl⟩:=p1
      have hsub:(ids xs2).Sublist (ids t.all):=hy2.trans (ha.map _)
      obtain ⟨ws,q1,q2,q3⟩:=hcv (fun y hy=>by
        rcases List.mem_append.1 hy with hy | hy
        · exact hy3 y hy
        · exact p2 y hy)
      rw [List.nil_append] at q1
      subst q1
      have hfs:(x5.filter (fun x=>!tracker_Tracker_fuse_1 x time now)).Sublist x5:=List.filter_sublist
      have hid:(ids (x5.filter (fun x=>!tracker_Tracker_fuse_1 x time now))).Sublist (ids (xs2 ++ zs)):=(hfs.map _).trans q2
      have hap:ids (xs2 ++ zs)=ids xs2 ++ ids zs:=List.map_append ..
      rw [hap] at hid
      have hb:∀ i ∈ ids xs2 ++ ids zs,i < t.next + m:=fun i hi=>by
        rcases List.mem_append.1 hi with hi | hi
        · have:=g3 i (hsub.mem hi);omega
        · exact (p3 i hi).2
      refine ⟨fun y hy=>q3 y (hfs.mem hy),List.Pairwise.sublist hid (List.pairwise_append.2 ⟨List.Pairwise.sublist hsub g2,p4,fun a ha b hb=>?_⟩),fun i hi=>hb i (hid.mem hi),?_,?_⟩
      · have:=g3 a (hsub.mem ha);have:=(p3 b hb).1;omega
      · show t.next ≤ t.next + (m:Int);omega
      · show t.next + (m:Int) ≤ t.next + 32
        have:=hsp.1;omega
theorem scan_len {t:Tracker} {l:List Spot} {time:Int} {r:List Track × Int × Tracker} (hr:tracker_Tracker_Scan t l time=r) (h:t.all.length ≤ 32):r.2.2.all.length ≤ 32 ∧ r.1.length ≤ 32:=by
  rcases scan_cases hr with ⟨_,h1,h2⟩ | ⟨_,_,h1,_,_,h2,_⟩
  · rw [h1,h2];exact ⟨h,Nat.zero_le _⟩
  · rw [h1,List.length_map];exact ⟨h2 h,h2 h⟩
end Go.Sky
end
section
namespace Go.Sky
open Go
structure bFlight where
  (at_ speed:P)
  (height code:Int)
deriving DecidableEq
def bFlight.c (x:bFlight):Array Value:=#[.int .i64 x.at_.X,.int .i64 x.at_.Y,.int .i64 x.speed.X,.int .i64 x.speed.Y,.int .i64 x.height,.int .i64 x.code]
def bFlight.v (x:bFlight):Value:=.agg #[.int .i64 x.at_.X,.int .i64 x.at_.Y,.int .i64 x.speed.X,.int .i64 x.speed.Y,.int .i64 x.height,.int .i64 x.code]
def bFlight.zero:bFlight:=⟨⟨0,0⟩,⟨0,0⟩,0,0⟩
theorem bFlight.one (x:bFlight):x.c.toList.all Value.oneCell'=true:=rfl
end Go.Sky
end
section
namespace Go.Sky
open Go Go.Eng Go.Proofs
def skywaytop_bWithin (n:Int) (low:Int) (high:Int):Int :=
  w64 (low + ((w64 ((n.tmod (w64 ((w64 (high - low)) + 1))) + (w64 ((w64 (high - low)) + 1)))).tmod (w64 ((w64 (high - low)) + 1))))
theorem within_eq {n low high r:Int} (hr:skywaytop_bWithin n low high=r) (h:low ≤ high) (h1:-1000000000000 ≤ low) (h2:high ≤ 1000000000000) :
    r=low + (n.tmod (high - low + 1) + (high - low + 1)).tmod (high - low + 1) ∧ low ≤ r ∧ r ≤ high:=by
  subst hr
  unfold skywaytop_bWithin
  have s:w64 ((w64 (high - low)) + 1)=high - low + 1:=by rw [w64_id (x:=high - low) (by omega),w64_id (by omega)]
  simp only [s]
  have t1:=Int.tmod_lt_of_pos n (show 0 < high - low + 1 by omega)
  have t2:=Int.lt_tmod_of_pos n (show 0 < high - low + 1 by omega)
  rw [w64_id (x:=n.tmod (high - low + 1) + (high - low + 1)) (by omega)]
  have t3:=Int.tmod_lt_of_pos (n.tmod (high - low + 1) + (high - low + 1)) (show 0 < high - low + 1 by omega)
  have t4:=Int.tmod_nonneg (high - low + 1) (show 0 ≤ n.tmod (high - low + 1) + (high - low + 1) by omega)
  rw [w64_id (by omega)]
  omega
theorem within_in {n low high r:Int} (hr:skywaytop_bWithin n low high=r) (h:low ≤ high) (h1:-1000000000000 ≤ low) (h2:high ≤ 1000000000000):low ≤ r ∧ r ≤ high:=(within_eq hr h h1 h2).2
set_option maxRecDepth 100000 in
theorem skywaytop_bWithin_w (n:Int) (low:Int) (high:Int) (w:World) (hs:w64 ((w64 (high - low)) + 1) ≠ 0):Calls Tryz.prog 13 #[.int .i64 n,.int .i64 low,.int .i64 high] w (Ret w (.int .i64 (skywaytop_bWithin n low high))):=by
  exact calls_intro (vs:=[.i n,.i low,.i high]) (w:=w) Tryz.func13 rfl Tryz.ntmps13 rfl (TC.sr (TL.r 1 [] [(6,.i 0)] {} (TL.nr (TL.r 5 [] [(7,.i (w64 ((w64 (high - low)) + 1)))] {} (TL.nr (TL.r 3 [] [(12,.i low),(13,.i n),(14,.i (w64 ((w64 (high - low)) + 1)))] {} (TL.v (sV (binOp .rem 3 (.i n) (.i (w64 ((w64 (high - low)) + 1))))) 15 (.i (n.tmod (w64 ((w64 (high - low)) + 1)))) (fun w hM=>run_rem sdr) {} (TL.r 7 [] [(17,.i (w64 ((n.tmod (w64 ((w64 (high - low)) + 1))) + (w64 ((w64 (high - low)) + 1))))),(18,.i (w64 ((w64 (high - low)) + 1)))] {} (TL.v (sV (binOp .rem 3 (.i (w64 ((n.tmod (w64 ((w64 (high - low)) + 1))) + (w64 ((w64 (high - low)) + 1))))) (.i (w64 ((w64 (high - low)) + 1))))) 19 (.i ((w64 ((n.tmod (w64 ((w64 (high - low)) + 1))) + (w64 ((w64 (high - low)) + 1)))).tmod (w64 ((w64 (high - low)) + 1)))) (fun w hM=>run_rem sdr) {} (TL.r 10 [] [(6,.i (w64 (low + ((w64 ((n.tmod (w64 ((w64 (high - low)) + 1))) + (w64 ((w64 (high - low)) + 1)))).tmod (w64 ((w64 (high - low)) + 1))))))] {} (TL.next rfl (TC.ret (TE.ret [] (.i (w64 (low + ((w64 ((n.tmod (w64 ((w64 (high - low)) + 1))) + (w64 ((w64 (high - low)) + 1)))).tmod (w64 ((w64 (high - low)) + 1)))))) {} (by unfold skywaytop_bWithin;refine eS (fun z=>(.i z:Value)) ?_;exact rfl))))))))))))))
def skywaytop_bSquare (a:P) (b_:P):Int :=
  w64 ((w64 ((w64 (a.X - b_.X)) * (w64 (a.X - b_.X)))) + (w64 ((w64 (a.Y - b_.Y)) * (w64 (a.Y - b_.Y)))))
set_option maxRecDepth 100000 in
theorem skywaytop_bSquare_w (a:P) (b_:P) (w:World):Calls Tryz.prog 25 #[P.v a,P.v b_] w (Ret w (.int .i64 (skywaytop_bSquare a b_))):=by
  exact calls_intro (vs:=[P.v a,P.v b_]) (w:=w) Tryz.func25 rfl Tryz.ntmps25 rfl (TC.sr (TL.nw 2 (fun b1=>.p0 b1) (fun b1=>Bk b1 (P.c a) 36) (fun b1=>{}) (fun b1=>TL.nw 3 (fun b2=>.p0 b2) (fun b2=>Bk b2 (P.c b_) 36) (fun b2=>{}) (fun b2=>TL.r 3 [] [(4,.i 0)] {} (TL.nr (TL.r 24 [1,0,1,0,1,0,1,0] [(4,.i (w64 ((w64 ((w64 (a.X - b_.X)) * (w64 (a.X - b_.X)))) + (w64 ((w64 (a.Y - b_.Y)) * (w64 (a.Y - b_.Y)))))))] {} (TL.next rfl (TC.ret (TE.ret [] (.i (w64 ((w64 ((w64 (a.X - b_.X)) * (w64 (a.X - b_.X)))) + (w64 ((w64 (a.Y - b_.Y)) * (w64 (a.Y - b_.Y))))))) {} (by unfold skywaytop_bSquare;refine eS (fun z=>(.i z:Value)) ?_;exact rfl))))))))))
def skywaytop_bRules:TrackerRules :=
  (⟨2,3,4,1,160,128⟩:TrackerRules)
set_option maxRecDepth 100000 in
theorem skywaytop_bRules_w (w:World):Calls Tryz.prog 44 #[] w (Ret w (TrackerRules.v (skywaytop_bRules))):=by
  exact calls_intro (vs:=[]) (w:=w) Tryz.func44 rfl Tryz.ntmps44 rfl (TC.sr (TL.nw 0 (fun b1=>.p0 b1) (fun b1=>Bk b1 (TrackerRules.c TrackerRules.zero) 114) (fun b1=>{}) (fun b1=>TL.nr (TL.r 1 [] [(1,TrackerRules.v (⟨2,3,4,1,160,128⟩:TrackerRules))] {} (TL.s 0 (Bk b1 (TrackerRules.c (⟨2,3,4,1,160,128⟩:TrackerRules)) 114) (fun _=>{}) (TL.next rfl (TC.ret (TE.ret [0] (TrackerRules.v (⟨2,3,4,1,160,128⟩:TrackerRules)) {} (by unfold skywaytop_bRules;refine eS (fun z=>(TrackerRules.v z:Value)) ?_;exact rfl)))))))))
def skywaytop_bFlight_place (f:bFlight) (time:Int):P :=
  (⟨w64 (f.at_.X + (w64 (f.speed.X * time))),w64 (f.at_.Y + (w64 (f.speed.Y * time)))⟩:P)
set_option maxRecDepth 100000 in
theorem skywaytop_bFlight_place_w (f:bFlight) (time:Int) (w:World):Calls Tryz.prog 16 #[bFlight.v f,.int .i64 time] w (Ret w (P.v (skywaytop_bFlight_place f time))):=by
  exact calls_intro (vs:=[bFlight.v f,.i time]) (w:=w) Tryz.func16 rfl Tryz.ntmps16 rfl (TC.sr (TL.nw 2 (fun b1=>.p0 b1) (fun b1=>Bk b1 (bFlight.c f) 38) (fun b1=>{}) (fun b1=>TL.nw 4 (fun b2=>.p0 b2) (fun b2=>Bk b2 (P.c P.zero) 36) (fun b2=>{}) (fun b2=>TL.nr (TL.r 19 [1,1,1,1] [(23,P.v (⟨w64 (f.at_.X + (w64 (f.speed.X * time))),w64 (f.at_.Y + (w64 (f.speed.Y * time)))⟩:P))] {} (TL.s 0 (Bk b2 (P.c (⟨w64 (f.at_.X + (w64 (f.speed.X * time))),w64 (f.at_.Y + (w64 (f.speed.Y * time)))⟩:P)) 36) (fun _=>{}) (TL.next rfl (TC.ret (TE.ret [0] (P.v (⟨w64 (f.at_.X + (w64 (f.speed.X * time))),w64 (f.at_.Y + (w64 (f.speed.Y * time)))⟩:P)) {} (by unfold skywaytop_bFlight_place;refine eS (fun z=>(P.v z:Value)) ?_;exact rfl))))))))))
def skywaytop_bFlights_L1 (l:List Int):Nat → Nat → (List bFlight) → (List bFlight)
  | 0,_,out=>out
  | m + 1,k,out=>let r1:=skywaytop_bWithin (l[(4 * k)]?.getD 0) 0 5000
    let r2:=skywaytop_bWithin (l[(w64 (((4 * k:Nat):Int) + 1)).toNat]?.getD 0) (-20000) 20000
    let r3:=skywaytop_bWithin (l[(w64 (((4 * k:Nat):Int) + 2)).toNat]?.getD 0) (-100) 100
    let r4:=skywaytop_bWithin (l[(w64 (((4 * k:Nat):Int) + 3)).toNat]?.getD 0) (-200) 200
    skywaytop_bFlights_L1 l m (k + 1) (out ++ ([(⟨⟨w64 ((w64 ((-60000) + (w64 (60000 * (w64 (((4 * k:Nat):Int).tdiv 4)))))) + r1),r2⟩,⟨r3,r4⟩,w64 (5000 + (w64 (3000 * (w64 (((4 * k:Nat):Int).tdiv 4))))),w64 (100 + ((4 * k:Nat):Int))⟩:bFlight)]))
def skywaytop_bFlights (l:List Int):List bFlight :=
  bindv (skywaytop_bFlights_L1 l (min (l.length / 4) 3) 0 ([]:List bFlight)) (fun out_2 =>
    out_2)
set_option maxRecDepth 100000 in
theorem skywaytop_bFlights_w (A_l:Option Addr) (c_l:Nat) (l:List Int) (w:World) (h_l:Rd w 1 A_l (l.map ic)) (_hc_l:l.length ≤ c_l):Calls Tryz.prog 9 #[.slice A_l l.length c_l] w (RetM (Γ:=(Option Addr × Nat)) (cx w) (fun g=>.slice g.1 ((skywaytop_bFlights l).length) g.2) (fun g=>[.inr (Own g.1 g.2 38 6 ((skywaytop_bFlights l).map bFlight.c))])):=by
  have s_l:=h_l.short;rw [List.length_map] at s_l
  refine calls_intro (vs:=[.slice A_l l.length c_l]) (w:=w) Tryz.func9 rfl Tryz.ntmps9 rfl (TC.sr (TL.r 1 [] [(2,.slice none 0 0)] {} (TL.nr (TL.r 1 [] [(3,.slice none 0 0)] {} (TL.ns (TC.sr (TL.r 1 [] [(4,.i 0)] {} (TL.next rfl (TC.conv [Ow none 0 38 6 (([]:List bFlight).map bFlight.c)] (fun _ hM=>hM.emptyrow none 38 6) ?_)))))))))
  obtain ⟨R2,hR⟩:∃ R,R=skywaytop_bFlights_L1 l (min (l.length / 4) 3) 0 ([]:List bFlight):=⟨_,rfl⟩
  refine TC.cut (S:=(List bFlight) × (Option Addr) × Nat) (fun (out_2,A_out_2,c_out_2)=>[(3,.slice A_out_2 out_2.length c_out_2)]) (fun (out_2,A_out_2,c_out_2)=>[Ow A_out_2 c_out_2 38 6 (out_2.map bFlight.c)]) (fun (out_2,A_out_2,c_out_2)=>R2=out_2 ∧ out_2.length ≤ (min (l.length / 4) 3)) ?_ ?_
  · refine TC.block (TC.lw (X:=Nat × (List bFlight) × (Option Addr) × Nat) (fun (k,out,A_out,c_out)=>[(0,.slice A_l l.length c_l),(3,.slice A_out out.length c_out),(4,.i ((4 * k:Nat):Int))]) (fun (k,out,A_out,c_out)=>[Ow A_out c_out 38 6 (out.map bFlight.c)]) (fun (k,out,A_out,c_out)=>(min (l.length / 4) 3) - k) (fun (k,out,A_out,c_out)=>k ≤ (min (l.length / 4) 3) ∧ R2=skywaytop_bFlights_L1 l ((min (l.length / 4) 3) - k) k out ∧ out.length ≤ k) ?_ (0,([]:List bFlight),none,0) ⟨Nat.zero_le _,hR,sz⟩ Kr (sb 1))
    rintro ⟨k,out,A_out,c_out⟩ ⟨hk,hI,hl_out⟩
    refine TC.seq (TC.sr (TL.r 6 [] [(10,.b (decide ((w64 (((4 * k:Nat):Int) + 3)) < (l.length:Int))))] {} (TL.j 10 (decide ((w64 (((4 * k:Nat):Int) + 3)) < (l.length:Int))) 9 [] [] (fun β=>[(13,.b (β && (decide (((4 * k:Nat):Int) < 12))))]) Kr {} {} (TL.next rfl (TC.cond ((decide ((w64 (((4 * k:Nat):Int) + 3)) < (l.length:Int))) && (decide (((4 * k:Nat):Int) < 12))) rfl Kr (fun h1=>?_) (fun h1=>?_))))))
    · have hlt:k < (min (l.length / 4) 3):=by have p0_:=(dec_t (and_t1 h1));have p1_:=(dec_t (and_t2 h1));first | omega | (simp only [w64_eq] at *;omega)
      have hd:(min (l.length / 4) 3) - k=((min (l.length / 4) 3) - (k + 1)) + 1:=by omega
      have q1_0:=(dec_t (and_t1 h1))
      have q1_1:=(dec_t (and_t2 h1))
      refine TC.sn (TC.seq (TC.block ?_))
      obtain ⟨r1,hr1⟩:∃ r,skywaytop_bWithin (l[(4 * k)]?.getD 0) 0 5000=r:=⟨_,rfl⟩
      obtain ⟨r2,hr2⟩:∃ r,skywaytop_bWithin (l[(w64 (((4 * k:Nat):Int) + 1)).toNat]?.getD 0) (-20000) 20000=r:=⟨_,rfl⟩
      obtain ⟨r3,hr3⟩:∃ r,skywaytop_bWithin (l[(w64 (((4 * k:Nat):Int) + 2)).toNat]?.getD 0) (-100) 100=r:=⟨_,rfl⟩
      obtain ⟨r4,hr4⟩:∃ r,skywaytop_bWithin (l[(w64 (((4 * k:Nat):Int) + 3)).toNat]?.getD 0) (-200) 200=r:=⟨_,rfl⟩
      refine TC.plan (G:=Nat × AN) (base:=[(0,.slice A_l l.length c_l),(3,.slice A_out out.length c_out),(4,.i ((4 * k:Nat):Int))]) (vals:=fun γ=>[.slice A_out out.length c_out,.i ((4 * k:Nat):Int),.i (w64 (((4 * k:Nat):Int).tdiv 4)),.i (w64 (60000 * (w64 (((4 * k:Nat):Int).tdiv 4)))),.i (w64 ((-60000) + (w64 (60000 * (w64 (((4 * k:Nat):Int).tdiv 4)))))),.slice A_l l.length c_l,.i ((4 * k:Nat):Int),.pointer (some (Ix A_l ((4 * k) * 1))),.i (l[(4 * k)]?.getD 0),.i r1,.i (w64 ((w64 ((-60000) + (w64 (60000 * (w64 (((4 * k:Nat):Int).tdiv 4)))))) + r1)),.slice A_l l.length c_l,.i ((4 * k:Nat):Int),.i (w64 (((4 * k:Nat):Int) + 1)),.pointer (some ((A_l.getD noAddr).add ((w64 (((4 * k:Nat):Int) + 1)).toNat * 1))),.i (l[(w64 (((4 * k:Nat):Int) + 1)).toNat]?.getD 0),.i r2,P.v (⟨w64 ((w64 ((-60000) + (w64 (60000 * (w64 (((4 * k:Nat):Int).tdiv 4)))))) + r1),r2⟩:P),.slice A_l l.length c_l,.i ((4 * k:Nat):Int),.i (w64 (((4 * k:Nat):Int) + 2)),.pointer (some ((A_l.getD noAddr).add ((w64 (((4 * k:Nat):Int) + 2)).toNat * 1))),.i (l[(w64 (((4 * k:Nat):Int) + 2)).toNat]?.getD 0),.i r3,.slice A_l l.length c_l,.i ((4 * k:Nat):Int),.i (w64 (((4 * k:Nat):Int) + 3)),.pointer (some ((A_l.getD noAddr).add ((w64 (((4 * k:Nat):Int) + 3)).toNat * 1))),.i (l[(w64 (((4 * k:Nat):Int) + 3)).toNat]?.getD 0),.i r4,P.v (⟨r3,r4⟩:P),.i ((4 * k:Nat):Int),.i (w64 (((4 * k:Nat):Int).tdiv 4)),.i (w64 (3000 * (w64 (((4 * k:Nat):Int).tdiv 4)))),.i (w64 (5000 + (w64 (3000 * (w64 (((4 * k:Nat):Int).tdiv 4)))))),.i ((4 * k:Nat):Int),.i (w64 (100 + ((4 * k:Nat):Int))),bFlight.v (⟨⟨w64 ((w64 ((-60000) + (w64 (60000 * (w64 (((4 * k:Nat):Int).tdiv 4)))))) + r1),r2⟩,⟨r3,r4⟩,w64 (5000 + (w64 (3000 * (w64 (((4 * k:Nat):Int).tdiv 4))))),w64 (100 + ((4 * k:Nat):Int))⟩:bFlight),.slice (Pa γ.1) 1 1,.slice (γ.2.1) ((out ++ ([(⟨⟨w64 ((w64 ((-60000) + (w64 (60000 * (w64 (((4 * k:Nat):Int).tdiv 4)))))) + r1),r2⟩,⟨r3,r4⟩,w64 (5000 + (w64 (3000 * (w64 (((4 * k:Nat):Int).tdiv 4))))),w64 (100 + ((4 * k:Nat):Int))⟩:bFlight)])).length) (γ.2.2),.slice (γ.2.1) ((out ++ ([(⟨⟨w64 ((w64 ((-60000) + (w64 (60000 * (w64 (((4 * k:Nat):Int).tdiv 4)))))) + r1),r2⟩,⟨r3,r4⟩,w64 (5000 + (w64 (3000 * (w64 (((4 * k:Nat):Int).tdiv 4))))),w64 (100 + ((4 * k:Nat):Int))⟩:bFlight)])).length) (γ.2.2)]) (writes:=[38,39]) (mem:=fun bs γ=>match bs with | [x38_,x39_]=>(bif x38_ then [Bk γ.1 (bFlight.c (⟨⟨w64 ((w64 ((-60000) + (w64 (60000 * (w64 (((4 * k:Nat):Int).tdiv 4)))))) + r1),r2⟩,⟨r3,r4⟩,w64 (5000 + (w64 (3000 * (w64 (((4 * k:Nat):Int).tdiv 4))))),w64 (100 + ((4 * k:Nat):Int))⟩:bFlight)) 38] else []) ++ ((bif x39_ then [Ow (γ.2.1) (γ.2.2) 38 6 ((out ++ ([(⟨⟨w64 ((w64 ((-60000) + (w64 (60000 * (w64 (((4 * k:Nat):Int).tdiv 4)))))) + r1),r2⟩,⟨r3,r4⟩,w64 (5000 + (w64 (3000 * (w64 (((4 * k:Nat):Int).tdiv 4))))),w64 (100 + ((4 * k:Nat):Int))⟩:bFlight)])).map bFlight.c)] else [Ow A_out c_out 38 6 (out.map bFlight.c)]) ++ ([])) | _=>[]) (0,(none,0)) (fun γ=>[(0,.slice A_l l.length c_l),(3,.slice (γ.2.1) ((out ++ ([(⟨⟨w64 ((w64 ((-60000) + (w64 (60000 * (w64 (((4 * k:Nat):Int).tdiv 4)))))) + r1),r2⟩,⟨r3,r4⟩,w64 (5000 + (w64 (3000 * (w64 (((4 * k:Nat):Int).tdiv 4))))),w64 (100 + ((4 * k:Nat):Int))⟩:bFlight)])).length) (γ.2.2)),(4,.i ((4 * k:Nat):Int))]) Kr Kr Kr Kr Kr (fun γ=>Kr) (fun _ hM=>hM) (fun γ=>Kr) ?_ ?_
      · skip
        exact Steps.run (i:=0) 7 [0,0,0,0,0,0,0] [] Kr Kr (fun S (γ:Nat × AN) w hM=>by rw [mS2 rfl rfl] at hM;exact hM.sub (sub_skip (sub_skip (List.Sublist.refl _)))) Kr (fun (γ:Nat × AN)=>{}) (Steps.val (i:=7) (fun (γ:Nat × AN)=>sV (Instr.indexAt 22 (.slice A_l l.length c_l) (.i ((4 * k:Nat):Int)))) (some 23) (fun (γ:Nat × AN)=>.pointer (some (Ix A_l ((4 * k) * 1)))) (fun _=>[]) Kr (fun S (γ:Nat × AN) w _ hM=>by rw [mS2 rfl rfl] at hM;exact hM.sub (sub_skip (sub_skip (List.Sublist.refl _)))) (fun (γ:Nat × AN) w hM=>run_index (h_l.sat hM) (by simp) Kr sd sd) (fun (γ:Nat × AN)=>Kr) (fun (γ:Nat × AN)=>Kr) (Steps.val (i:=8) (fun (γ:Nat × AN)=>sV (Instr.loadAt 3 (.pointer (some (Ix A_l ((4 * k) * 1)))))) (some 24) (fun (γ:Nat × AN)=>.i (l[(4 * k)]?.getD 0)) (fun _=>[]) Kr (fun S (γ:Nat × AN) w _ hM=>by rw [mS2 rfl rfl] at hM;exact hM.sub (sub_skip (sub_skip (List.Sublist.refl _)))) (fun (γ:Nat × AN) w hM=>run_load_one (off:=0) (i:=(4 * k)) (.i (l[(4 * k)]?.getD 0)) (h_l.sat hM) (map_at (getD_at _ _ 0 sd)) Kr Kr) (fun (γ:Nat × AN)=>Kr) (fun (γ:Nat × AN)=>Kr) (Steps.call (i:=9) 13 (fun (γ:Nat × AN)=>#[.i (l[(4 * k)]?.getD 0),.i 0,.i 5000]) (some 25) (fun (γ:Nat × AN)=>.i r1) (fun (γ:Nat × AN)=>[]) Kr (fun S (γ:Nat × AN) w _ hM=>by rw [mS2 rfl rfl] at hM;exact hM.sub (sub_skip (sub_skip (List.Sublist.refl _)))) (fun (γ:Nat × AN) w _=>by have h:=skywaytop_bWithin_w (l[(4 * k)]?.getD 0) 0 5000 w (by first | omega | first | decide | omega | (simp only [w64_eq];omega) | (simp <;> omega));rw [hr1] at h;exact h) (fun (γ:Nat × AN)=>Kr) (fun (γ:Nat × AN)=>Kr) (Steps.run (i:=10) 14 [0,0,0,0] [] Kr Kr (fun S (γ:Nat × AN) w hM=>by rw [mS2 rfl rfl] at hM;exact hM.sub (sub_skip (sub_skip (List.Sublist.refl _)))) Kr (fun (γ:Nat × AN)=>{}) (Steps.val (i:=14) (fun (γ:Nat × AN)=>sV (Instr.indexAt 22 (.slice A_l l.length c_l) (.i (w64 (((4 * k:Nat):Int) + 1))))) (some 30) (fun (γ:Nat × AN)=>.pointer (some ((A_l.getD noAddr).add ((w64 (((4 * k:Nat):Int) + 1)).toNat * 1)))) (fun _=>[]) Kr (fun S (γ:Nat × AN) w _ hM=>by rw [mS2 rfl rfl] at hM;exact hM.sub (sub_skip (sub_skip (List.Sublist.refl _)))) (fun (γ:Nat × AN) w hM=>run_index (h_l.sat hM) (by simp) Kr sd sd) (fun (γ:Nat × AN)=>Kr) (fun (γ:Nat × AN)=>Kr) (Steps.val (i:=15) (fun (γ:Nat × AN)=>sV (Instr.loadAt 3 (.pointer (some ((A_l.getD noAddr).add ((w64 (((4 * k:Nat):Int) + 1)).toNat * 1)))))) (some 31) (fun (γ:Nat × AN)=>.i (l[(w64 (((4 * k:Nat):Int) + 1)).toNat]?.getD 0)) (fun _=>[]) Kr (fun S (γ:Nat × AN) w _ hM=>by rw [mS2 rfl rfl] at hM;exact hM.sub (sub_skip (sub_skip (List.Sublist.refl _)))) (fun (γ:Nat × AN) w hM=>run_load_one (off:=0) (i:=(w64 (((4 * k:Nat):Int) + 1)).toNat) (.i (l[(w64 (((4 * k:Nat):Int) + 1)).toNat]?.getD 0)) (h_l.sat hM) (map_at (getD_at _ _ 0 sd)) Kr Kr) (fun (γ:Nat × AN)=>Kr) (fun (γ:Nat × AN)=>Kr) (Steps.call (i:=16) 13 (fun (γ:Nat × AN)=>#[.i (l[(w64 (((4 * k:Nat):Int) + 1)).toNat]?.getD 0),.i (-20000),.i 20000]) (some 32) (fun (γ:Nat × AN)=>.i r2) (fun (γ:Nat × AN)=>[]) Kr (fun S (γ:Nat × AN) w _ hM=>by rw [mS2 rfl rfl] at hM;exact hM.sub (sub_skip (sub_skip (List.Sublist.refl _)))) (fun (γ:Nat × AN) w _=>by have h:=skywaytop_bWithin_w (l[(w64 (((4 * k:Nat):Int) + 1)).toNat]?.getD 0) (-20000) 20000 w (by first | omega | first | decide | omega | (simp only [w64_eq];omega) | (simp <;> omega));rw [hr2] at h;exact h) (fun (γ:Nat × AN)=>Kr) (fun (γ:Nat × AN)=>Kr) (Steps.run (i:=17) 21 [0,0,0,0] [] Kr Kr (fun S (γ:Nat × AN) w hM=>by rw [mS2 rfl rfl] at hM;exact hM.sub (sub_skip (sub_skip (List.Sublist.refl _)))) Kr (fun (γ:Nat × AN)=>{}) (Steps.val (i:=21) (fun (γ:Nat × AN)=>sV (Instr.indexAt 22 (.slice A_l l.length c_l) (.i (w64 (((4 * k:Nat):Int) + 2))))) (some 37) (fun (γ:Nat × AN)=>.pointer (some ((A_l.getD noAddr).add ((w64 (((4 * k:Nat):Int) + 2)).toNat * 1)))) (fun _=>[]) Kr (fun S (γ:Nat × AN) w _ hM=>by rw [mS2 rfl rfl] at hM;exact hM.sub (sub_skip (sub_skip (List.Sublist.refl _)))) (fun (γ:Nat × AN) w hM=>run_index (h_l.sat hM) (by simp) Kr sd sd) (fun (γ:Nat × AN)=>Kr) (fun (γ:Nat × AN)=>Kr) (Steps.val (i:=22) (fun (γ:Nat × AN)=>sV (Instr.loadAt 3 (.pointer (some ((A_l.getD noAddr).add ((w64 (((4 * k:Nat):Int) + 2)).toNat * 1)))))) (some 38) (fun (γ:Nat × AN)=>.i (l[(w64 (((4 * k:Nat):Int) + 2)).toNat]?.getD 0)) (fun _=>[]) Kr (fun S (γ:Nat × AN) w _ hM=>by rw [mS2 rfl rfl] at hM;exact hM.sub (sub_skip (sub_skip (List.Sublist.refl _)))) (fun (γ:Nat × AN) w hM=>run_load_one (off:=0) (i:=(w64 (((4 * k:Nat):Int) + 2)).toNat) (.i (l[(w64 (((4 * k:Nat):Int) + 2)).toNat]?.getD 0)) (h_l.sat hM) (map_at (getD_at _ _ 0 sd)) Kr Kr) (fun (γ:Nat × AN)=>Kr) (fun (γ:Nat × AN)=>Kr) (Steps.call (i:=23) 13 (fun (γ:Nat × AN)=>#[.i (l[(w64 (((4 * k:Nat):Int) + 2)).toNat]?.getD 0),.i (-100),.i 100]) (some 39) (fun (γ:Nat × AN)=>.i r3) (fun (γ:Nat × AN)=>[]) Kr (fun S (γ:Nat × AN) w _ hM=>by rw [mS2 rfl rfl] at hM;exact hM.sub (sub_skip (sub_skip (List.Sublist.refl _)))) (fun (γ:Nat × AN) w _=>by have h:=skywaytop_bWithin_w (l[(w64 (((4 * k:Nat):Int) + 2)).toNat]?.getD 0) (-100) 100 w (by first | omega | first | decide | omega | (simp only [w64_eq];omega) | (simp <;> omega));rw [hr3] at h;exact h) (fun (γ:Nat × AN)=>Kr) (fun (γ:Nat × AN)=>Kr) (Steps.run (i:=24) 27 [0,0,0] [] Kr Kr (fun S (γ:Nat × AN) w hM=>by rw [mS2 rfl rfl] at hM;exact hM.sub (sub_skip (sub_skip (List.Sublist.refl _)))) Kr (fun (γ:Nat × AN)=>{}) (Steps.val (i:=27) (fun (γ:Nat × AN)=>sV (Instr.indexAt 22 (.slice A_l l.length c_l) (.i (w64 (((4 * k:Nat):Int) + 3))))) (some 43) (fun (γ:Nat × AN)=>.pointer (some ((A_l.getD noAddr).add ((w64 (((4 * k:Nat):Int) + 3)).toNat * 1)))) (fun _=>[]) Kr (fun S (γ:Nat × AN) w _ hM=>by rw [mS2 rfl rfl] at hM;exact hM.sub (sub_skip (sub_skip (List.Sublist.refl _)))) (fun (γ:Nat × AN) w hM=>run_index (h_l.sat hM) (by simp) Kr sd sd) (fun (γ:Nat × AN)=>Kr) (fun (γ:Nat × AN)=>Kr) (Steps.val (i:=28) (fun (γ:Nat × AN)=>sV (Instr.loadAt 3 (.pointer (some ((A_l.getD noAddr).add ((w64 (((4 * k:Nat):Int) + 3)).toNat * 1)))))) (some 44) (fun (γ:Nat × AN)=>.i (l[(w64 (((4 * k:Nat):Int) + 3)).toNat]?.getD 0)) (fun _=>[]) Kr (fun S (γ:Nat × AN) w _ hM=>by rw [mS2 rfl rfl] at hM;exact hM.sub (sub_skip (sub_skip (List.Sublist.refl _)))) (fun (γ:Nat × AN) w hM=>run_load_one (off:=0) (i:=(w64 (((4 * k:Nat):Int) + 3)).toNat) (.i (l[(w64 (((4 * k:Nat):Int) + 3)).toNat]?.getD 0)) (h_l.sat hM) (map_at (getD_at _ _ 0 sd)) Kr Kr) (fun (γ:Nat × AN)=>Kr) (fun (γ:Nat × AN)=>Kr) (Steps.call (i:=29) 13 (fun (γ:Nat × AN)=>#[.i (l[(w64 (((4 * k:Nat):Int) + 3)).toNat]?.getD 0),.i (-200),.i 200]) (some 45) (fun (γ:Nat × AN)=>.i r4) (fun (γ:Nat × AN)=>[]) Kr (fun S (γ:Nat × AN) w _ hM=>by rw [mS2 rfl rfl] at hM;exact hM.sub (sub_skip (sub_skip (List.Sublist.refl _)))) (fun (γ:Nat × AN) w _=>by have h:=skywaytop_bWithin_w (l[(w64 (((4 * k:Nat):Int) + 3)).toNat]?.getD 0) (-200) 200 w (by first | omega | first | decide | omega | (simp only [w64_eq];omega) | (simp <;> omega));rw [hr4] at h;exact h) (fun (γ:Nat × AN)=>Kr) (fun (γ:Nat × AN)=>Kr) (Steps.run (i:=30) 38 [0,0,0,0,0,0,0,0] [] Kr Kr (fun S (γ:Nat × AN) w hM=>by rw [mS2 rfl rfl] at hM;exact hM.sub (sub_skip (sub_skip (List.Sublist.refl _)))) Kr (fun (γ:Nat × AN)=>{}) (Steps.op (i:=38) (Γ:=Nat) (fun g (γ:Nat × AN)=>(g,γ.2)) (fun _=>[]) (fun b (γ:Nat × AN)=>[Bk b (bFlight.c (⟨⟨w64 ((w64 ((-60000) + (w64 (60000 * (w64 (((4 * k:Nat):Int).tdiv 4)))))) + r1),r2⟩,⟨r3,r4⟩,w64 (5000 + (w64 (3000 * (w64 (((4 * k:Nat):Int).tdiv 4))))),w64 (100 + ((4 * k:Nat):Int))⟩:bFlight)) 38]) (fun S (γ:Nat × AN)=>(bif S 39 then [Ow (γ.2.1) (γ.2.2) 38 6 ((out ++ ([(⟨⟨w64 ((w64 ((-60000) + (w64 (60000 * (w64 (((4 * k:Nat):Int).tdiv 4)))))) + r1),r2⟩,⟨r3,r4⟩,w64 (5000 + (w64 (3000 * (w64 (((4 * k:Nat):Int).tdiv 4))))),w64 (100 + ((4 * k:Nat):Int))⟩:bFlight)])).map bFlight.c)] else [Ow A_out c_out 38 6 (out.map bFlight.c)]) ++ ([])) [38,39,40] (fun (γ:Nat × AN)=>sV (Instr.buildSlice 23 1 #[(0,bFlight.v (⟨⟨w64 ((w64 ((-60000) + (w64 (60000 * (w64 (((4 * k:Nat):Int).tdiv 4)))))) + r1),r2⟩,⟨r3,r4⟩,w64 (5000 + (w64 (3000 * (w64 (((4 * k:Nat):Int).tdiv 4))))),w64 (100 + ((4 * k:Nat):Int))⟩:bFlight))])) (some 54) (fun b (γ:Nat × AN)=>.slice (Pa b) 1 1) (fun S (γ:Nat × AN) hj hd hl=>by rw [mS2 hj rfl];exact List.Perm.refl _) (fun S (γ:Nat × AN) g _=>(List.Perm.refl _).symm) (fun (γ:Nat × AN) M' w hM=>run_new (v:=fun b=>.slice (Pa b) 1 1) (fun b M=>Kr) M' w hM) (fun (γ:Nat × AN)=>Kr) (fun (γ:Nat × AN) g=>Kr) Kr (fun (γ:Nat × AN) g=>Kr) (Steps.opL (i:=39) (Γ:=AN) (fun g (γ:Nat × AN)=>(γ.1,g)) (fun (γ:Nat × AN)=>[Ow A_out c_out 38 6 (out.map bFlight.c),Bk γ.1 (bFlight.c (⟨⟨w64 ((w64 ((-60000) + (w64 (60000 * (w64 (((4 * k:Nat):Int).tdiv 4)))))) + r1),r2⟩,⟨r3,r4⟩,w64 (5000 + (w64 (3000 * (w64 (((4 * k:Nat):Int).tdiv 4))))),w64 (100 + ((4 * k:Nat):Int))⟩:bFlight)) 38]) (fun g (γ:Nat × AN)=>[Ow (g.1) (g.2) 38 6 ((out ++ ([(⟨⟨w64 ((w64 ((-60000) + (w64 (60000 * (w64 (((4 * k:Nat):Int).tdiv 4)))))) + r1),r2⟩,⟨r3,r4⟩,w64 (5000 + (w64 (3000 * (w64 (((4 * k:Nat):Int).tdiv 4))))),w64 (100 + ((4 * k:Nat):Int))⟩:bFlight)])).map bFlight.c),Bk γ.1 (bFlight.c (⟨⟨w64 ((w64 ((-60000) + (w64 (60000 * (w64 (((4 * k:Nat):Int).tdiv 4)))))) + r1),r2⟩,⟨r3,r4⟩,w64 (5000 + (w64 (3000 * (w64 (((4 * k:Nat):Int).tdiv 4))))),w64 (100 + ((4 * k:Nat):Int))⟩:bFlight)) 38]) (fun S (γ:Nat × AN)=>[]) [39,40] (fun (γ:Nat × AN)=>sV (Builtin.append_ #[23,23] 23 #[.slice A_out out.length c_out,.slice (Pa γ.1) 1 1])) (some 55) (fun g (γ:Nat × AN)=>.slice (g.1) ((out ++ ([(⟨⟨w64 ((w64 ((-60000) + (w64 (60000 * (w64 (((4 * k:Nat):Int).tdiv 4)))))) + r1),r2⟩,⟨r3,r4⟩,w64 (5000 + (w64 (3000 * (w64 (((4 * k:Nat):Int).tdiv 4))))),w64 (100 + ((4 * k:Nat):Int))⟩:bFlight)])).length) (g.2)) (fun S (γ:Nat × AN) hj hd hl=>by change List.Perm (((bif S 38 then [Bk γ.1 (bFlight.c (⟨⟨w64 ((w64 ((-60000) + (w64 (60000 * (w64 (((4 * k:Nat):Int).tdiv 4)))))) + r1),r2⟩,⟨r3,r4⟩,w64 (5000 + (w64 (3000 * (w64 (((4 * k:Nat):Int).tdiv 4))))),w64 (100 + ((4 * k:Nat):Int))⟩:bFlight)) 38] else []) ++ ((bif S 39 then [Ow (γ.2.1) (γ.2.2) 38 6 ((out ++ ([(⟨⟨w64 ((w64 ((-60000) + (w64 (60000 * (w64 (((4 * k:Nat):Int).tdiv 4)))))) + r1),r2⟩,⟨r3,r4⟩,w64 (5000 + (w64 (3000 * (w64 (((4 * k:Nat):Int).tdiv 4))))),w64 (100 + ((4 * k:Nat):Int))⟩:bFlight)])).map bFlight.c)] else [Ow A_out c_out 38 6 (out.map bFlight.c)]) ++ ([]))):Mem) _;rw [hj,hd 38 Kr];exact ((List.Perm.append_left _ (List.Perm.refl _)).trans (perm_mid _ _ _)).trans (List.Perm.append_left _ ((List.Perm.refl _).trans (List.Perm.append_left _ (List.Perm.refl _))))) (fun S (γ:Nat × AN) g _ hd hl=>by change List.Perm ([Ow (g.1) (g.2) 38 6 ((out ++ ([(⟨⟨w64 ((w64 ((-60000) + (w64 (60000 * (w64 (((4 * k:Nat):Int).tdiv 4)))))) + r1),r2⟩,⟨r3,r4⟩,w64 (5000 + (w64 (3000 * (w64 (((4 * k:Nat):Int).tdiv 4))))),w64 (100 + ((4 * k:Nat):Int))⟩:bFlight)])).map bFlight.c)] ++ ([Bk γ.1 (bFlight.c (⟨⟨w64 ((w64 ((-60000) + (w64 (60000 * (w64 (((4 * k:Nat):Int).tdiv 4)))))) + r1),r2⟩,⟨r3,r4⟩,w64 (5000 + (w64 (3000 * (w64 (((4 * k:Nat):Int).tdiv 4))))),w64 (100 + ((4 * k:Nat):Int))⟩:bFlight)) 38] ++ ([]))) (((bif S 38 then [Bk γ.1 (bFlight.c (⟨⟨w64 ((w64 ((-60000) + (w64 (60000 * (w64 (((4 * k:Nat):Int).tdiv 4)))))) + r1),r2⟩,⟨r3,r4⟩,w64 (5000 + (w64 (3000 * (w64 (((4 * k:Nat):Int).tdiv 4))))),w64 (100 + ((4 * k:Nat):Int))⟩:bFlight)) 38] else []) ++ ((bif true then [Ow (g.1) (g.2) 38 6 ((out ++ ([(⟨⟨w64 ((w64 ((-60000) + (w64 (60000 * (w64 (((4 * k:Nat):Int).tdiv 4)))))) + r1),r2⟩,⟨r3,r4⟩,w64 (5000 + (w64 (3000 * (w64 (((4 * k:Nat):Int).tdiv 4))))),w64 (100 + ((4 * k:Nat):Int))⟩:bFlight)])).map bFlight.c)] else [Ow A_out c_out 38 6 (out.map bFlight.c)]) ++ ([]))):Mem);rw [hd 38 Kr];exact (((List.Perm.append_left _ (List.Perm.refl _)).trans (perm_mid _ _ _)).trans (List.Perm.append_left _ ((List.Perm.refl _).trans (List.Perm.append_left _ (List.Perm.refl _))))).symm) (fun (γ:Nat × AN) M' w hM=>app_at (bytes:=48) 23 0 ([(⟨⟨w64 ((w64 ((-60000) + (w64 (60000 * (w64 (((4 * k:Nat):Int).tdiv 4)))))) + r1),r2⟩,⟨r3,r4⟩,w64 (5000 + (w64 (3000 * (w64 (((4 * k:Nat):Int).tdiv 4))))),w64 (100 + ((4 * k:Nat):Int))⟩:bFlight)]) Kr rfl rfl bFlight.one rfl (fun w hM=>(Rd.lit hM 1 _ rfl Kr Kr Kr)) rfl sa w hM) (fun (γ:Nat × AN)=>Kr) (fun (γ:Nat × AN) g=>Kr) Kr (fun (γ:Nat × AN) g=>Kr) (Steps.run (i:=40) 41 [0] [] Kr Kr (fun S (γ:Nat × AN) w hM=>by rw [mS2 rfl rfl] at hM;exact hM.sub (sub_skip (sub_skip (List.Sublist.refl _)))) Kr (fun (γ:Nat × AN)=>{}) (Steps.done Kr))))))))))))))))))))
      · rintro ⟨b1,⟨A,c⟩⟩
        exact TE.conv [Bk b1 (bFlight.c (⟨⟨w64 ((w64 ((-60000) + (w64 (60000 * (w64 (((4 * k:Nat):Int).tdiv 4)))))) + r1),r2⟩,⟨r3,r4⟩,w64 (5000 + (w64 (3000 * (w64 (((4 * k:Nat):Int).tdiv 4))))),w64 (100 + ((4 * k:Nat):Int))⟩:bFlight)) 38,Ow A c 38 6 ((out ++ ([(⟨⟨w64 ((w64 ((-60000) + (w64 (60000 * (w64 (((4 * k:Nat):Int).tdiv 4)))))) + r1),r2⟩,⟨r3,r4⟩,w64 (5000 + (w64 (3000 * (w64 (((4 * k:Nat):Int).tdiv 4))))),w64 (100 + ((4 * k:Nat):Int))⟩:bFlight)])).map bFlight.c)] (fun _ hM=>hM) (TE.nb (TE.next (TC.region (TL.r 3 [] [(4,.i (w64 (((4 * k:Nat):Int) + 4)))] {} (TL.done rfl (TE.rw 4 (.i (w64 (((4 * k:Nat):Int) + 4))) (.i ((4 * (k + 1):Nat):Int)) Kr (int_eq (by first | omega | (rw [w64_id (by omega)];omega) | (simp only [w64_eq] at *;omega))) (TE.again (x:=(k,out,A_out,c_out)) (k + 1,(out ++ ([(⟨⟨w64 ((w64 ((-60000) + (w64 (60000 * (w64 (((4 * k:Nat):Int).tdiv 4)))))) + r1),r2⟩,⟨r3,r4⟩,w64 (5000 + (w64 (3000 * (w64 (((4 * k:Nat):Int).tdiv 4))))),w64 (100 + ((4 * k:Nat):Int))⟩:bFlight)])),A,c) ⟨by omega,hI.trans (by subst hr1 hr2 hr3 hr4;rw [hd];exact rfl),sl⟩ (mN hlt) Kr (sb 2))))))))
    · have hd:(min (l.length / 4) 3) - k=0:=by have p0_:=((and_f h1).imp (fun h=>(dec_f h)) (fun h=>(dec_f h)));first | omega | (simp only [w64_eq] at *;omega)
      refine TC.exit (TE.et (TE.et (TE.exit_same ?_)))
      exact TE.cut (out,A_out,c_out) (⟨hI.trans (by rw [hd];exact rfl),sl⟩) Kr (sb 1)
  · rintro ⟨out_2,A_out_2,c_out_2⟩ ⟨hJ,hl_out_2⟩
    refine TE.nr (TL.r 2 [] [(2,.slice A_out_2 out_2.length c_out_2)] {} (TL.next rfl (TC.ret ?_)))
    have e:skywaytop_bFlights l=out_2:=by unfold skywaytop_bFlights;exact bindv_eq (hR.symm.trans hJ) (rfl)
    rw [e]
    exact TE.retM (.inl rfl) (A_out_2,c_out_2) [] (.slice A_out_2 out_2.length c_out_2) {} rfl (fun _ hM=>hM.sub (sb 1))
def skywaytop_bLives:Bool :=
  let r1:=skywaytop_bRules
  let r2:=tracker_New r1
  cond ((r2.2 != 0) || false) (
    false) (
    let r3:=tracker_Tracker_Scan r2.1 ([(⟨0,⟨0,0⟩,0,5,10⟩:Spot)]:List Spot) 0
    let r4:=tracker_Tracker_Scan r3.2.2 ([(⟨4,⟨0,0⟩,0,5,10⟩:Spot)]:List Spot) 4
    cond ((r4.2.1 == 0) && ((r4.1.length:Int) == 1)) (
      ((r4.1[0]?.getD Track.zero).State) == 1) (
      false))
theorem new_all {r1:TrackerRules} {r2:Tracker × Int} (h1:skywaytop_bRules=r1) (h2:tracker_New r1=r2):r2.1.all=[]:=by
  subst h1 h2
  rfl
set_option maxRecDepth 100000 in
theorem skywaytop_bLives_w (w:World):Calls Tryz.prog 12 #[] w (Ret w (.bool (skywaytop_bLives))):=by
  refine calls_intro (vs:=[]) (w:=w) Tryz.func12 rfl Tryz.ntmps12 rfl (TC.sr (TL.r 1 [] [(0,.b false)] {} (TL.nr (TL.c 5 (skywaytop_bRules) (fun r1=>TrackerRules.v r1) (fun w _=>skywaytop_bRules_w w) {} (fun r1 hr1=>TL.cm (Γ:=Nat × AN) 0 6 (tracker_New r1) (fun r2 g=>.tuple #[.p0 g.1,.i r2.2]) (fun r2 g=>[Bk g.1 (Tracker.k r2.1 g.2.1 g.2.2) 118,Ow g.2.1 g.2.2 122 23 (r2.1.all.map followed.c)]) [] Kr (fun w hM=>tracker_New_w r1 w hM (by subst hr1;rfl)) {} (fun r2 hr2=>?_))))))
  have nl_:r2.1.all.length ≤ 32:=by rw [new_all hr1 hr2];decide
  rintro ⟨b_r2,A,c⟩
  refine TL.know (fun w hM=>hM.short_at 1 rfl) (fun s_r2_1=>TL.r 7 [] [(1,.p0 b_r2),(2,.i r2.2)] {} (TL.ns (TC.sr (TL.r 3 [] [(11,.b (r2.2 != 0))] {} (TL.j 11 (r2.2 != 0) 6 [] [] (fun β=>[(14,.b (β || false))]) Kr {} {} (TL.next rfl (TC.cond ((r2.2 != 0) || false) rfl Kr (fun h1=>?_) (fun h1=>?_))))))))
  · exact TC.sr (TL.r 1 [] [(0,.b false)] {} (TL.next rfl (TC.ret (TE.rt (TE.ret [] (.b false) {} (by unfold skywaytop_bLives;refine eS (fun z=>(.b z:Value)) ?_;subst hr1 hr2;exact cond_t h1 (rfl)))))))
  · have q1_0:=(bne_f (or_f1 h1))
    refine TC.snr (TL.r 2 [] [(15,.p0 b_r2),(16,Spot.v (⟨0,⟨0,0⟩,0,5,10⟩:Spot))] {} (TL.nw 17 (fun b1=>.slice (Pa b1) 1 1) (fun b1=>Bk b1 (Spot.c (⟨0,⟨0,0⟩,0,5,10⟩:Spot)) 42) (fun b1=>{}) (fun b1=>TL.conv [Ow (Pa b1) 1 42 6 (([(⟨0,⟨0,0⟩,0,5,10⟩:Spot)]:List Spot).map Spot.c),Bk b_r2 (Tracker.k r2.1 A c) 118,Ow A c 122 23 (r2.1.all.map followed.c)] (fun _ hM=>by exact hM.litrow 0 (([(⟨0,⟨0,0⟩,0,5,10⟩:Spot)]:List Spot).map Spot.c) rfl Kr Kr Kr Kr) (TL.conv [Bk b_r2 (Tracker.k r2.1 A c) 118,Ow A c 122 23 (r2.1.all.map followed.c),Ow (Pa b1) 1 42 6 (([(⟨0,⟨0,0⟩,0,5,10⟩:Spot)]:List Spot).map Spot.c)] (fun _ hM=>hM.perm (px [1,2,0])) (TL.cm (Γ:=AN × AN) 3 18 (tracker_Tracker_Scan r2.1 ([(⟨0,⟨0,0⟩,0,5,10⟩:Spot)]:List Spot) 0) (fun r3 g=>.tuple #[.slice g.1.1 r3.1.length g.1.2,.i r3.2.1]) (fun r3 g=>[Bk b_r2 (Tracker.k r3.2.2 g.2.1 g.2.2) 118,Ow g.2.1 g.2.2 122 23 (r3.2.2.all.map followed.c),Ow (Pa b1) 1 42 6 (([(⟨0,⟨0,0⟩,0,5,10⟩:Spot)]:List Spot).map Spot.c),Ow g.1.1 g.1.2 40 13 (r3.1.map Track.c)]) [Bk b_r2 (Tracker.k r2.1 A c) 118,Ow A c 122 23 (r2.1.all.map followed.c),Ow (Pa b1) 1 42 6 (([(⟨0,⟨0,0⟩,0,5,10⟩:Spot)]:List Spot).map Spot.c)] Kr (fun w hM=>tracker_Tracker_Scan_w b_r2 r2.1 A c (Pa b1) 1 ([(⟨0,⟨0,0⟩,0,5,10⟩:Spot)]:List Spot) 0 w hM sg) {} (fun r3 hr3=>?_))))))
    have nl2_:=scan_len hr3 nl_
    rintro ⟨⟨A_2,c_2⟩,A_3,c_3⟩
    refine TL.know (fun w hM=>hM.short_at 1 rfl) (fun s_r3_1=>TL.know (fun w hM=>hM.short_at 3 rfl) (fun s_r3_3=>TL.nr (TL.r 2 [] [(20,.p0 b_r2),(21,Spot.v (⟨4,⟨0,0⟩,0,5,10⟩:Spot))] {} (TL.nw 22 (fun b2=>.slice (Pa b2) 1 1) (fun b2=>Bk b2 (Spot.c (⟨4,⟨0,0⟩,0,5,10⟩:Spot)) 42) (fun b2=>{}) (fun b2=>TL.conv [Ow (Pa b2) 1 42 6 (([(⟨4,⟨0,0⟩,0,5,10⟩:Spot)]:List Spot).map Spot.c),Bk b_r2 (Tracker.k r3.2.2 A_3 c_3) 118,Ow A_3 c_3 122 23 (r3.2.2.all.map followed.c),Ow (Pa b1) 1 42 6 (([(⟨0,⟨0,0⟩,0,5,10⟩:Spot)]:List Spot).map Spot.c),Ow A_2 c_2 40 13 (r3.1.map Track.c)] (fun _ hM=>by exact hM.litrow 0 (([(⟨4,⟨0,0⟩,0,5,10⟩:Spot)]:List Spot).map Spot.c) rfl Kr Kr Kr Kr) (TL.conv [Bk b_r2 (Tracker.k r3.2.2 A_3 c_3) 118,Ow A_3 c_3 122 23 (r3.2.2.all.map followed.c),Ow (Pa b2) 1 42 6 (([(⟨4,⟨0,0⟩,0,5,10⟩:Spot)]:List Spot).map Spot.c),Ow (Pa b1) 1 42 6 (([(⟨0,⟨0,0⟩,0,5,10⟩:Spot)]:List Spot).map Spot.c),Ow A_2 c_2 40 13 (r3.1.map Track.c)] (fun _ hM=>hM.perm (px [1,2,0,3,4])) (TL.cm (Γ:=AN × AN) 3 23 (tracker_Tracker_Scan r3.2.2 ([(⟨4,⟨0,0⟩,0,5,10⟩:Spot)]:List Spot) 4) (fun r4 g=>.tuple #[.slice g.1.1 r4.1.length g.1.2,.i r4.2.1]) (fun r4 g=>[Bk b_r2 (Tracker.k r4.2.2 g.2.1 g.2.2) 118,Ow g.2.1 g.2.2 122 23 (r4.2.2.all.map followed.c),Ow (Pa b2) 1 42 6 (([(⟨4,⟨0,0⟩,0,5,10⟩:Spot)]:List Spot).map Spot.c),Ow g.1.1 g.1.2 40 13 (r4.1.map Track.c)]) [Bk b_r2 (Tracker.k r3.2.2 A_3 c_3) 118,Ow A_3 c_3 122 23 (r3.2.2.all.map followed.c),Ow (Pa b2) 1 42 6 (([(⟨4,⟨0,0⟩,0,5,10⟩:Spot)]:List Spot).map Spot.c)] Kr (fun w hM=>tracker_Tracker_Scan_w b_r2 r3.2.2 A_3 c_3 (Pa b2) 1 ([(⟨4,⟨0,0⟩,0,5,10⟩:Spot)]:List Spot) 4 w hM sg) {} (fun r4 hr4=>?_))))))))
    rintro ⟨⟨A_4,c_4⟩,A_5,c_5⟩
    refine TL.know (fun w hM=>hM.short_at 1 rfl) (fun s_r4_1=>TL.know (fun w hM=>hM.short_at 3 rfl) (fun s_r4_3=>TL.r 9 [] [(2,.i r4.2.1),(3,.slice A_4 r4.1.length c_4)] {} (TL.nr (TL.r 3 [] [(28,.b (r4.2.1 == 0))] {} (TL.j 28 (r4.2.1 == 0) 7 [] [] (fun β=>[(32,.b (β && ((r4.1.length:Int) == 1)))]) Kr {} {} (TL.r 8 [] [(33,.b ((r4.2.1 == 0) && ((r4.1.length:Int) == 1)))] {} (TL.split 33 ((r4.2.1 == 0) && ((r4.1.length:Int) == 1)) Kr (fun h2=>?_) (fun h2=>?_))))))))
    · have q2_0:=(beq_t (and_t1 h2))
      have q2_1:=(beq_t (and_t2 h2))
      exact TL.r 9 [] [(34,.slice A_4 r4.1.length c_4)] {} (TL.v (sV (Instr.indexAt 57 (.slice A_4 r4.1.length c_4) (.i 0))) 35 (.pointer (some (Ix A_4 (0 * 13)))) (fun w hM=>run_index (hM.rd_at 3 rfl) (by simp) Kr sd sd) {} (TL.r 11 [] [(36,.pointer (some ((Ix A_4 (0 * 13)).add 1)))] {} (TL.v (sV (Instr.loadAt 3 (.pointer (some ((Ix A_4 (0 * 13)).add 1))))) 37 (.i ((r4.1[0]?.getD Track.zero).State)) (fun w hM=>run_load_one (off:=1) (i:=0) (.i ((r4.1[0]?.getD Track.zero).State)) (hM.rd_at 3 rfl) (map_at (getD_at _ _ Track.zero sd)) Kr Kr) {} (TL.r 15 [] [(0,.b (((r4.1[0]?.getD Track.zero).State) == 1))] {} (TL.next rfl (TC.ret (TE.ret [] (.b (((r4.1[0]?.getD Track.zero).State) == 1)) {} (by unfold skywaytop_bLives;refine eS (fun z=>(.b z:Value)) ?_;subst hr1 hr2 hr3 hr4;exact cond_f h1 (cond_t h2 (rfl))))))))))
    · exact TL.r 15 [] [(0,.b false)] {} (TL.next rfl (TC.ret (TE.ret [] (.b false) {} (by unfold skywaytop_bLives;refine eS (fun z=>(.b z:Value)) ?_;subst hr1 hr2 hr3 hr4;exact cond_f h1 (cond_f h2 (rfl))))))
end Go.Sky
end
section
namespace Go.Eng
def dbl (n:Int):Nat:=FloatKind.f64.nearest n
def fcm (x y:Nat):Option Ordering:=FloatKind.f64.format.order x y
def feq (x y:Nat):Bool:=fcm x y == some .eq
def fne (x y:Nat):Bool:=fcm x y != some .eq
def flt (x y:Nat):Bool:=fcm x y == some .lt
def fgt (x y:Nat):Bool:=fcm x y == some .gt
def fmul (x y:Nat):Nat:=(FloatKind.f64.format.mul x y).getD 0
theorem run_fmul {P:Program} {w:World} {t:TypeId} {x y:Nat} (h:(FloatKind.f64.format.mul x y).isSome=true) :
    (sV (binOp .mul t (.float .f64 x) (.float .f64 y))).run P w=.ok (.value (.float .f64 (fmul x y))) w:=by
  refine run_sV ?_
  obtain ⟨r,hr⟩:=Option.isSome_iff_exists.1 h
  simp only [binOp,Op.floatArith,fmul,hr]
  rfl
theorem run_f64bits {f:FuncId} {P:Program} {w:World} {fn:Func} {b:Nat} (hf:P.funcs[f]? = some fn) (hname:(fn.name == "runtime.NumGoroutine")=false) (hb:fn.body.isNone=true) (hn:Extern.findNext fn=none)
    (he:Extern.find fn=some Extern.MathFloatBits.float64bits):(callFunc f #[.float .f64 b]).run P w=.ok (.value (.int .u64 (b:Int))) w:=by
  rw [run_callFunc_extern hf hname hb hn he];rfl
theorem run_f64frombits {f:FuncId} {P:Program} {w:World} {fn:Func} {n:Int} (hf:P.funcs[f]? = some fn) (hname:(fn.name == "runtime.NumGoroutine")=false) (hb:fn.body.isNone=true) (hn:Extern.findNext fn=none)
    (he:Extern.find fn=some Extern.MathFloatBits.float64frombits):(callFunc f #[.int .u64 n]).run P w=.ok (.value (.float .f64 n.toNat)) w:=by
  rw [run_callFunc_extern hf hname hb hn he];rfl
end Go.Eng
end
section
namespace Go.Eng
open Go.RowKit (Below)
def seq (x y:ByteArray):Bool:=x.toList == y.toList
end Go.Eng
end
section
namespace Go.Sky
open Go Go.Eng
theorem fkand_u64 {a b:Nat} (ha:a < 18446744073709551616) (hb:b < 18446744073709551616):kand .u64 (a:Int) (b:Int)=((a &&& b:Nat):Int):=by
  have hx:a &&& b < 18446744073709551616:=Nat.lt_of_le_of_lt Nat.and_le_left ha
  have e:(BitVec.ofInt IntKind.u64.bits (a:Int) &&& BitVec.ofInt IntKind.u64.bits (b:Int)).toNat=a &&& b:=by
    rw [BitVec.toNat_and,BitVec.ofInt_natCast,BitVec.ofInt_natCast,BitVec.toNat_ofNat,BitVec.toNat_ofNat]
    have hs:(2:Nat) ^ IntKind.u64.bits=18446744073709551616:=rfl
    rw [hs,Nat.mod_eq_of_lt ha,Nat.mod_eq_of_lt hb]
  unfold kand
  rw [e]
  exact wu64_id (by omega)
theorem fkor_u64 {a b:Nat} (ha:a < 18446744073709551616) (hb:b < 18446744073709551616):kor .u64 (a:Int) (b:Int)=((a ||| b:Nat):Int):=by
  have hx:a ||| b < 18446744073709551616:=Nat.or_lt_two_pow (n:=64) ha hb
  have e:(BitVec.ofInt IntKind.u64.bits (a:Int) ||| BitVec.ofInt IntKind.u64.bits (b:Int)).toNat=a ||| b:=by
    rw [BitVec.toNat_or,BitVec.ofInt_natCast,BitVec.ofInt_natCast,BitVec.toNat_ofNat,BitVec.toNat_ofNat]
    have hs:(2:Nat) ^ IntKind.u64.bits=18446744073709551616:=rfl
    rw [hs,Nat.mod_eq_of_lt ha,Nat.mod_eq_of_lt hb]
  unfold kor
  rw [e]
  exact wu64_id (by omega)
theorem fkandnot_u64 {a b:Nat} (ha:a < 18446744073709551616) (hb:b < 18446744073709551616):kandnot .u64 (a:Int) (b:Int)=((a &&& (18446744073709551615 - b):Nat):Int):=by
  have hx:a &&& (18446744073709551615 - b) < 18446744073709551616:=Nat.lt_of_le_of_lt Nat.and_le_left ha
  have e:(BitVec.ofInt IntKind.u64.bits (a:Int) &&& ~~~BitVec.ofInt IntKind.u64.bits (b:Int)).toNat=a &&& (18446744073709551615 - b):=by
    rw [BitVec.toNat_and,BitVec.toNat_not,BitVec.ofInt_natCast,BitVec.ofInt_natCast,BitVec.toNat_ofNat,BitVec.toNat_ofNat]
    have hs:(2:Nat) ^ IntKind.u64.bits=18446744073709551616:=rfl
    rw [hs,Nat.mod_eq_of_lt ha,Nat.mod_eq_of_lt hb]
  unfold kandnot
  rw [e]
  exact wu64_id (by omega)
theorem andnot_sign {x:Nat} (h:x < 18446744073709551616):kandnot .u64 (x:Int) 9223372036854775808=((x % 9223372036854775808:Nat):Int):=by
  have e:=fkandnot_u64 (a:=x) (b:=9223372036854775808) h (by decide)
  rw [show ((9223372036854775808:Nat):Int)=9223372036854775808 from rfl] at e
  rw [e,show 18446744073709551615 - 9223372036854775808=2 ^ 63 - 1 by decide,Nat.and_two_pow_sub_one_eq_mod]
theorem dbl_lt (n:Int):dbl n < 18446744073709551616:=FloatKind.f64.format.write_lt (.number (n < 0) n.natAbs 0)
end Go.Sky
end
section
namespace Go.Eng
def fadd (x y:Nat):Nat:=(FloatKind.f64.format.add x y).getD 0
def fsub (x y:Nat):Nat:=(FloatKind.f64.format.sub x y).getD 0
def fdiv (x y:Nat):Nat:=(FloatKind.f64.format.div x y).getD 0
def fneg (x:Nat):Nat:=x ^^^ 9223372036854775808
def fle (x y:Nat):Bool:=fcm x y == some .lt || fcm x y == some .eq
def fge (x y:Nat):Bool:=fcm x y == some .gt || fcm x y == some .eq
def f2i (x:Nat):Int:=((FloatKind.f64.decode x).toInt .zero).getD 0
def ffloor (x:Nat):Nat:=FloatKind.f64.encode ((FloatKind.f64.decode x).integral .down)
section
variable {P:Program} {w:World} {t:TypeId} {x y:Nat}
theorem run_fadd (h:(FloatKind.f64.format.add x y).isSome=true):(sV (binOp .add t (.float .f64 x) (.float .f64 y))).run P w=.ok (.value (.float .f64 (fadd x y))) w:=by
  obtain ⟨r,hr⟩:=Option.isSome_iff_exists.1 h
  rw [show fadd x y=r by unfold fadd;rw [hr];rfl]
  exact run_sV (run_float_arith w .add t .f64 x y r hr)
theorem run_fsub (h:(FloatKind.f64.format.sub x y).isSome=true):(sV (binOp .sub t (.float .f64 x) (.float .f64 y))).run P w=.ok (.value (.float .f64 (fsub x y))) w:=by
  obtain ⟨r,hr⟩:=Option.isSome_iff_exists.1 h
  rw [show fsub x y=r by unfold fsub;rw [hr];rfl]
  exact run_sV (run_float_arith w .sub t .f64 x y r hr)
theorem run_fdiv (h:(FloatKind.f64.format.div x y).isSome=true):(sV (binOp .quo t (.float .f64 x) (.float .f64 y))).run P w=.ok (.value (.float .f64 (fdiv x y))) w:=by
  obtain ⟨r,hr⟩:=Option.isSome_iff_exists.1 h
  rw [show fdiv x y=r by unfold fdiv;rw [hr];rfl]
  exact run_sV (run_float_arith w .quo t .f64 x y r hr)
theorem run_f2i {src dst:TypeId} {k:IntKind} (hs:(P.underlying src).isSome=true) (hd:P.underlying dst=some (.int k)) (h:floatToIntVal .f64 x k=some (f2i x)) :
    (sV (convert src dst (.float .f64 x))).run P w=.ok (.value (.int k (f2i x))) w:=run_sV (run_convert_float_int w src dst .f64 k x _ hs hd h)
end
abbrev DD:=FloatKind.f64.format
theorem dd_sign:DD.signWeight=9223372036854775808:=rfl
theorem dd_bin:DD.binade=4503599627370496:=rfl
theorem dd_inf:DD.infRung=9218868437227405312:=rfl
theorem dd_least:DD.leastPlace=-1074:=rfl
theorem dd_frac:DD.fractionBits=52:=rfl
theorem dlog_of {m k:Nat} (h1:2 ^ k ≤ m) (h2:m < 2 ^ (k + 1)):m.log2=k:=by
  have h0:m ≠ 0:=by have:=Nat.two_pow_pos k;omega
  have a:=(Nat.le_log2 h0).2 h1
  have b:=(Nat.log2_lt h0).2 h2
  omega
theorem read_word {s:Bool} {r:Nat} (h:r < 9218868437227405312):DD.read (DD.word s r)=if r < 4503599627370496 then .number s r (-1074) else .number s (4503599627370496 + r % 4503599627370496) (-1074 + (r / 4503599627370496 - 1:Nat)):=by
  have hm:DD.word s r % 9223372036854775808=r:=by unfold Ieee.Format.word;rw [dd_sign];cases s <;> simp <;> omega
  have hd:(DD.word s r / 9223372036854775808 % 2 == 1)=s:=by unfold Ieee.Format.word;rw [dd_sign];cases s <;> simp <;> omega
  unfold Ieee.Format.read
  simp only [dd_sign,dd_bin,dd_inf,dd_least,hm,hd]
  by_cases h1:r < 4503599627370496
  · rw [if_pos h1,if_pos h1]
  · rw [if_neg h1,if_neg h1,if_pos h]
theorem cut_le (way:Ieee.Toward) (neg:Bool) (n drop:Nat):n / 2 ^ (min drop (n.log2 + 2)) ≤ way.cut neg n drop ∧ way.cut neg n drop ≤ n / 2 ^ (min drop (n.log2 + 2)) + 1:=by
  unfold Ieee.Toward.cut
  simp only [Nat.one_shiftLeft]
  refine ⟨Nat.le_add_right _ _,Nat.add_le_add_left (Bool.toNat_le _) _⟩
theorem cut_zero (neg:Bool) (n:Nat):Ieee.Toward.even.cut neg n 0=n:=by
  unfold Ieee.Toward.cut
  rw [Nat.zero_min]
  simp [Nat.mod_one]
def Lw (m:Nat) (p e:Int):Prop:=m=0 ∨ (m.log2:Int) + p < e ∨ (m=2 ^ m.log2 ∧ (m.log2:Int) + p=e)
theorem cut_exact (neg:Bool) {n drop:Nat} (h:n % 2 ^ (min drop (n.log2 + 2))=0):Ieee.Toward.even.cut neg n drop=n / 2 ^ (min drop (n.log2 + 2)):=by
  unfold Ieee.Toward.cut
  have hp:=Nat.two_pow_pos (min drop (n.log2 + 2))
  simp only [Nat.one_shiftLeft,h]
  have h1:decide (2 ^ (min drop (n.log2 + 2)) < 2 * 0)=false:=decide_eq_false (by omega)
  have h2:(2 ^ (min drop (n.log2 + 2)) == 2 * 0)=false:=by
    generalize 2 ^ (min drop (n.log2 + 2))=q at hp
    cases q with
    | zero=>omega
    | succ q=>rfl
  rw [h1,h2];rfl
theorem round_bd (s:Bool) {m:Nat} {p e:Int} (h:Lw m p e) (h0:0 ≤ e) (h1:e ≤ 1000) :
    ∃ m' p',DD.read (DD.nearest s m p)=.number s m' p' ∧ Lw m' p' e ∧ (m ≠ 0 → 0 ≤ (m.log2:Int) + p → m' ≠ 0 ∧ 0 ≤ (m'.log2:Int) + p'):=by
  unfold Lw at h ⊢
  by_cases hm:m=0
  · refine ⟨0,-1074,?_,.inl rfl,fun h=>absurd hm h⟩
    unfold Ieee.Format.nearest
    rw [if_pos hm,read_word (by decide)]
    rfl
  have h:=h.resolve_left hm
  have l1:=Nat.log2_self_le hm
  have l2:m < 2 ^ (m.log2 + 1):=Nat.lt_log2_self
  unfold Ieee.Format.nearest
  rw [if_neg hm]
  simp only [dd_frac,dd_least,dd_bin,dd_inf]
  generalize hL:m.log2=L at *
  have hc:((52:Nat):Int)=52:=rfl
  rw [hc]
  by_cases hA:-1074 ≤ p + (L:Int) - 52
  ·
    rw [show max (p + (L:Int) - 52) (-1074)=p + L - 52 by omega]
    have hk:(4503599627370496 ≤ Ieee.Toward.even.cut s (m <<< (p - (p + (L:Int) - 52)).toNat) (p + (L:Int) - 52 - p).toNat ∧ Ieee.Toward.even.cut s (m <<< (p - (p + (L:Int) - 52)).toNat) (p + (L:Int) - 52 - p).toNat ≤ 9007199254740992) ∧
        (m=2 ^ L → Ieee.Toward.even.cut s (m <<< (p - (p + (L:Int) - 52)).toNat) (p + (L:Int) - 52 - p).toNat=4503599627370496):=by
      by_cases hl:L ≤ 52
      · rw [show (p - (p + (L:Int) - 52)).toNat=52 - L by omega,show (p + (L:Int) - 52 - p).toNat=0 by omega,cut_zero,Nat.shiftLeft_eq]
        have e1:(2:Nat) ^ L * 2 ^ (52 - L)=4503599627370496:=by rw [← Nat.pow_add,show L + (52 - L)=52 by omega]
        have e2:(2:Nat) ^ (L + 1) * 2 ^ (52 - L)=9007199254740992:=by rw [← Nat.pow_add,show L + 1 + (52 - L)=53 by omega]
        have a1:=Nat.mul_le_mul_right (2 ^ (52 - L)) l1
        have a2:=Nat.mul_lt_mul_of_pos_right l2 (Nat.two_pow_pos (52 - L))
        exact ⟨by omega,fun h=>by rw [h];exact e1⟩
      · rw [show (p - (p + (L:Int) - 52)).toNat=0 by omega,show (p + (L:Int) - 52 - p).toNat=L - 52 by omega,Nat.shiftLeft_zero]
        have c:=cut_le .even s m (L - 52)
        have x:=cut_exact s (n:=m) (drop:=L - 52)
        rw [hL,Nat.min_eq_left (by omega)] at c x
        have e1:(2:Nat) ^ L=4503599627370496 * 2 ^ (L - 52):=by rw [show (4503599627370496:Nat)=2 ^ 52 from rfl,← Nat.pow_add];congr 1;omega
        have e2:(2:Nat) ^ (L + 1)=9007199254740992 * 2 ^ (L - 52):=by rw [show (9007199254740992:Nat)=2 ^ 53 from rfl,← Nat.pow_add];congr 1;omega
        have p1:=Nat.two_pow_pos (L - 52)
        have a1:4503599627370496 ≤ m / 2 ^ (L - 52):=(Nat.le_div_iff_mul_le p1).2 (by omega)
        have a2:m / 2 ^ (L - 52) < 9007199254740992:=(Nat.div_lt_iff_lt_mul p1).2 (by omega)
        refine ⟨by omega,fun h=>?_⟩
        rw [x (by rw [h,e1];exact Nat.mul_mod_left _ _)]
        rw [h,e1];exact Nat.mul_div_cancel _ p1
    generalize Ieee.Toward.even.cut s (m <<< (p - (p + (L:Int) - 52)).toNat) (p + (L:Int) - 52 - p).toNat=k at hk
    obtain ⟨E,hE⟩:∃ E:Nat,(p + (L:Int) - 52 - -1074).toNat=E:=⟨_,rfl⟩
    have hE':(E:Int)=p + L + 1022:=by omega
    have hLe:p + (L:Int) ≤ e:=by omega
    rw [hE,Nat.min_eq_left (by omega),read_word (by omega),if_neg (by omega)]
    have lg:∀ F,F < 4503599627370496 → (4503599627370496 + F).log2=52:=fun F hF=>dlog_of (by omega) (by omega)
    by_cases hk2:k=9007199254740992
    · have hn:¬ m=2 ^ L:=fun h=>by have:=hk.2 h;omega
      have e1:(E * 4503599627370496 + k) / 4503599627370496=E + 2:=by omega
      have e2:(E * 4503599627370496 + k) % 4503599627370496=0:=by omega
      rw [e1,e2]
      refine ⟨_,_,rfl,.inr ?_,fun _ _=>⟨by omega,?_⟩⟩ <;> rw [lg 0 (by decide)]
      · have:(4503599627370496 + 0:Nat)=2 ^ 52:=rfl
        rcases h with h | h
        · by_cases h5:p + (L:Int) + 1=e
          · exact .inr ⟨this,by omega⟩
          · exact .inl (by omega)
        · exact absurd h.1 hn
      · omega
    · have e1:(E * 4503599627370496 + k) / 4503599627370496=E + 1:=by omega
      have e2:(E * 4503599627370496 + k) % 4503599627370496=k - 4503599627370496:=by omega
      rw [e1,e2]
      refine ⟨_,_,rfl,.inr ?_,fun _ _=>⟨by omega,?_⟩⟩ <;> rw [lg _ (by omega)]
      · rcases h with h | h
        · exact .inl (by omega)
        · have h6:=hk.2 h.1
          subst h6
          exact .inr ⟨rfl,by omega⟩
      · omega
  ·
    have h:(L:Int) + p < e:=by omega
    rw [show max (p + (L:Int) - 52) (-1074)=-1074 by omega]
    have hk:Ieee.Toward.even.cut s (m <<< (p - -1074).toNat) (-1074 - p).toNat ≤ 4503599627370496:=by
      by_cases hp:-1074 ≤ p
      · rw [show (-1074 - p).toNat=0 by omega,cut_zero,Nat.shiftLeft_eq]
        obtain ⟨q,hq⟩:∃ q:Nat,(p - -1074).toNat=q:=⟨_,rfl⟩
        rw [hq]
        have a2:=Nat.mul_lt_mul_of_pos_right l2 (Nat.two_pow_pos q)
        rw [← Nat.pow_add] at a2
        have a3:2 ^ (L + 1 + q) ≤ 2 ^ 52:=Nat.pow_le_pow_right (by decide) (by omega)
        have:(2:Nat) ^ 52=4503599627370496:=rfl
        omega
      · rw [show (p - -1074).toNat=0 by omega,Nat.shiftLeft_zero]
        have c:=cut_le .even s m (-1074 - p).toNat
        rw [hL] at c
        obtain ⟨q,hq⟩:∃ q:Nat,(-1074 - p).toNat=q:=⟨_,rfl⟩
        rw [hq] at c ⊢
        by_cases hd:q ≤ L + 2
        · rw [Nat.min_eq_left hd] at c
          have a1:m / 2 ^ q < 4503599627370496:=by
            rw [Nat.div_lt_iff_lt_mul (Nat.two_pow_pos q)]
            have a3:2 ^ (L + 1) ≤ 2 ^ (52 + q):=Nat.pow_le_pow_right (by decide) (by omega)
            rw [Nat.pow_add 2 52 q,show (2:Nat) ^ 52=4503599627370496 from rfl] at a3
            omega
          omega
        · rw [Nat.min_eq_right (by omega)] at c
          have a1:m / 2 ^ (L + 2)=0:=Nat.div_eq_of_lt (Nat.lt_of_lt_of_le l2 (Nat.pow_le_pow_right (by decide) (by omega)))
          omega
    generalize Ieee.Toward.even.cut s (m <<< (p - -1074).toNat) (-1074 - p).toNat=k at hk
    rw [show ((-1074:Int) - -1074).toNat=0 by decide,Nat.zero_mul,Nat.zero_add,Nat.min_eq_left (by omega),read_word (by omega)]
    by_cases hk2:k < 4503599627370496
    · rw [if_pos hk2]
      refine ⟨_,_,rfl,?_,fun _ _=>by omega⟩
      by_cases hk0:k=0
      · exact .inl hk0
      · have:=(Nat.log2_lt hk0).2 (show k < 2 ^ 52 by omega)
        exact .inr (.inl (by omega))
    · rw [if_neg hk2,show k=4503599627370496 by omega]
      refine ⟨_,_,rfl,.inr (.inl ?_),fun _ _=>by omega⟩
      rw [show Nat.log2 (4503599627370496 + 4503599627370496 % 4503599627370496)=52 from dlog_of (by decide) (by decide)]
      have:(4503599627370496 / 4503599627370496 - 1:Nat)=0:=rfl
      omega
theorem Lw.mono {m:Nat} {p e f:Int} (h:Lw m p e) (hf:e ≤ f):Lw m p f:=by
  unfold Lw at *
  by_cases h2:e=f
  · subst h2;exact h
  · omega
class Bd (e:outParam Nat) (x:Nat):Prop where
  bd:e ≤ 1000 → ∃ s m p,DD.read x=.number s m p ∧ Lw m p e
class Po (e:outParam Nat) (x:Nat):Prop where
  po:e ≤ 1000 → ∃ m p,DD.read x=.number false m p ∧ Lw m p e
class Ge (e:outParam Nat) (x:Nat):Prop where
  ge:e ≤ 1000 → ∃ s m p,DD.read x=.number s m p ∧ Lw m p e ∧ m ≠ 0 ∧ 0 ≤ (m.log2:Int) + p
class Pg (e:outParam Nat) (x:Nat):Prop where
  pg:e ≤ 1000 → ∃ m p,DD.read x=.number false m p ∧ Lw m p e ∧ m ≠ 0 ∧ 0 ≤ (m.log2:Int) + p
section
variable {e f x y:Nat}
instance po_bd [h:Po e x]:Bd e x:=⟨fun he=>by obtain ⟨m,p,h1,h2⟩:=h.po he;exact ⟨_,_,_,h1,h2⟩⟩
instance pg_po [h:Pg e x]:Po e x:=⟨fun he=>by obtain ⟨m,p,h1,h2,_⟩:=h.pg he;exact ⟨_,_,h1,h2⟩⟩
instance pg_ge [h:Pg e x]:Ge e x:=⟨fun he=>by obtain ⟨m,p,h1,h2⟩:=h.pg he;exact ⟨_,_,_,h1,h2⟩⟩
instance ge_bd [h:Ge e x]:Bd e x:=⟨fun he=>by obtain ⟨s,m,p,h1,h2,_⟩:=h.ge he;exact ⟨_,_,_,h1,h2⟩⟩
theorem log_mul {m n:Nat} (hm:m ≠ 0) (hn:n ≠ 0):(m * n).log2 ≤ m.log2 + n.log2 + 1:=by
  have a:m < 2 ^ (m.log2 + 1):=Nat.lt_log2_self
  have b:n < 2 ^ (n.log2 + 1):=Nat.lt_log2_self
  have c:=Nat.mul_lt_mul'' a b
  rw [← Nat.pow_add] at c
  have:=(Nat.log2_lt (Nat.mul_ne_zero hm hn)).2 c
  omega
theorem fmul_eq {s t:Bool} {m n:Nat} {i j:Int} (hx:DD.read x=.number s m i) (hy:DD.read y=.number t n j):DD.mul x y=some (DD.nearest (s ^^ t) (m * n) (i + j)):=by
  unfold Ieee.Format.mul;rw [hx,hy];rfl
theorem mul_bd {m n:Nat} {i j:Int} (hm:Lw m i e) (hn:Lw n j f):Lw (m * n) (i + j) ((e + f:Nat):Int):=by
  unfold Lw at *
  by_cases h1:m=0
  · exact .inl (by rw [h1,Nat.zero_mul])
  by_cases h2:n=0
  · exact .inl (by rw [h2,Nat.mul_zero])
  have hl:=log_mul h1 h2
  have a:m < 2 ^ (m.log2 + 1):=Nat.lt_log2_self
  have b:n < 2 ^ (n.log2 + 1):=Nat.lt_log2_self
  have h0:=Nat.mul_ne_zero h1 h2
  refine .inr ?_
  rcases hm.resolve_left h1 with c | ⟨c1,c2⟩
  · rcases hn.resolve_left h2 with d | ⟨d1,d2⟩
    · exact .inl (by omega)
    · have g:m * n < 2 ^ (m.log2 + 1 + n.log2):=by
        rw [Nat.pow_add,← d1];exact Nat.mul_lt_mul_of_pos_right a (Nat.pos_of_ne_zero h2)
      have:=(Nat.log2_lt h0).2 g
      exact .inl (by omega)
  · rcases hn.resolve_left h2 with d | ⟨d1,d2⟩
    · have g:m * n < 2 ^ (m.log2 + (n.log2 + 1)):=by
        rw [Nat.pow_add,← c1];exact Nat.mul_lt_mul_of_pos_left b (Nat.pos_of_ne_zero h1)
      have:=(Nat.log2_lt h0).2 g
      exact .inl (by omega)
    · have g:m * n=2 ^ (m.log2 + n.log2):=by rw [Nat.pow_add,← c1,← d1]
      have g2:(m * n).log2=m.log2 + n.log2:=by rw [g];exact dlog_of (Nat.le_refl _) (Nat.pow_lt_pow_right (by decide) (by omega))
      exact .inr ⟨by rw [g2];exact g,by omega⟩
theorem fmS [hx:Bd e x] [hy:Bd f y] (h:e ≤ 1000 ∧ f ≤ 1000:=by decide):(FloatKind.f64.format.mul x y).isSome=true:=by
  obtain ⟨s,m,i,h1,_⟩:=hx.bd h.1
  obtain ⟨t,n,j,h2,_⟩:=hy.bd h.2
  rw [fmul_eq h1 h2];rfl
instance bdM [hx:Bd e x] [hy:Bd f y]:Bd (e + f) (fmul x y):=⟨fun he=>by
  obtain ⟨s,m,i,h1,k1⟩:=hx.bd (by omega)
  obtain ⟨t,n,j,h2,k2⟩:=hy.bd (by omega)
  obtain ⟨m',p',r1,r2,_⟩:=round_bd (s ^^ t) (mul_bd k1 k2) (by omega) (by omega)
  refine ⟨(s ^^ t:Bool),m',p',?_,r2.mono (by omega)⟩
  unfold fmul;rw [fmul_eq h1 h2];exact r1⟩
instance poM [hx:Po e x] [hy:Po f y]:Po (e + f) (fmul x y):=⟨fun he=>by
  obtain ⟨m,i,h1,k1⟩:=hx.po (by omega)
  obtain ⟨n,j,h2,k2⟩:=hy.po (by omega)
  obtain ⟨m',p',r1,r2,_⟩:=round_bd (false ^^ false) (mul_bd k1 k2) (by omega) (by omega)
  refine ⟨m',p',?_,r2.mono (by omega)⟩
  unfold fmul;rw [fmul_eq h1 h2];exact r1⟩
instance poS [hx:Bd e x]:Po (e + e) (fmul x x):=⟨fun he=>by
  obtain ⟨s,m,i,h1,k1⟩:=hx.bd (by omega)
  obtain ⟨m',p',r1,r2,_⟩:=round_bd (s ^^ s) (mul_bd k1 k1) (by omega) (by omega)
  refine ⟨m',p',?_,r2.mono (by omega)⟩
  unfold fmul;rw [fmul_eq h1 h1]
  rw [Bool.xor_self] at r1 ⊢;exact r1⟩
theorem shl_le {m:Nat} {i b:Int} {K:Nat} (hm:Lw m i (b + K)) (hi:b ≤ i):m <<< (i - b).toNat ≤ 2 ^ K:=by
  unfold Lw at hm
  rw [Nat.shiftLeft_eq]
  by_cases h1:m=0
  · rw [h1,Nat.zero_mul];exact Nat.zero_le _
  have a:m < 2 ^ (m.log2 + 1):=Nat.lt_log2_self
  rcases hm.resolve_left h1 with h | ⟨h,h3⟩
  · have c:=Nat.mul_lt_mul_of_pos_right a (Nat.two_pow_pos (i - b).toNat)
    rw [← Nat.pow_add] at c
    exact Nat.le_of_lt (Nat.lt_of_lt_of_le c (Nat.pow_le_pow_right (by decide) (by omega)))
  · rw [show K=m.log2 + (i - b).toNat by omega,Nat.pow_add,← h]
    exact Nat.le_refl _
theorem sum_eq {s t:Bool} {m n:Nat} {i j:Int} (hx:DD.read x=.number s m i) (hy:DD.read y=.number t n j):∃ tot:Int,tot=Ieee.signed s m (i - min i j).toNat + Ieee.signed t n (j - min i j).toNat ∧
    DD.add x y=some (DD.nearest (if tot=0 then s && t else tot < 0) tot.natAbs (min i j)):=by
  refine ⟨_,rfl,?_⟩
  unfold Ieee.Format.add;rw [hx,hy];rfl
theorem sub_eq' {s t:Bool} {m n:Nat} {i j:Int} (hx:DD.read x=.number s m i) (hy:DD.read y=.number t n j):∃ tot:Int,tot=Ieee.signed s m (i - min i j).toNat + Ieee.signed (!t) n (j - min i j).toNat ∧
    DD.sub x y=some (DD.nearest (if tot=0 then s && !t else tot < 0) tot.natAbs (min i j)):=by
  refine ⟨_,rfl,?_⟩
  unfold Ieee.Format.sub;rw [hx,hy];rfl
theorem signed_abs (s:Bool) (m a:Nat):(Ieee.signed s m a).natAbs=m <<< a:=by
  unfold Ieee.signed;cases s
  · exact Int.natAbs_natCast (m <<< a)
  · exact (Int.natAbs_neg _).trans (Int.natAbs_natCast (m <<< a))
theorem sum_bd {s t:Bool} {m n:Nat} {i j:Int} (hm:Lw m i e) (hn:Lw n j f) {tot:Int} (h:tot=Ieee.signed s m (i - min i j).toNat + Ieee.signed t n (j - min i j).toNat) :
    Lw tot.natAbs (min i j) ((max e f + 1:Nat):Int):=by
  unfold Lw
  by_cases h0:tot.natAbs=0
  · exact .inl h0
  refine .inr ?_
  have s1:=signed_abs s m (i - min i j).toNat
  have s2:=signed_abs t n (j - min i j).toNat
  by_cases hz:0 ≤ ((max e f:Nat):Int) - min i j
  · obtain ⟨K,hK⟩:∃ K:Nat,K=(((max e f:Nat):Int) - min i j).toNat:=⟨_,rfl⟩
    have a1:=shl_le (m:=m) (i:=i) (b:=min i j) (K:=K) (hm.mono (by omega)) (by omega)
    have a2:=shl_le (m:=n) (i:=j) (b:=min i j) (K:=K) (hn.mono (by omega)) (by omega)
    have a3:tot.natAbs ≤ 2 ^ (K + 1):=by
      rw [Nat.pow_succ]
      generalize m <<< (i - min i j).toNat=A at *
      generalize n <<< (j - min i j).toNat=B at *
      omega
    by_cases a5:tot.natAbs=2 ^ (K + 1)
    · have a4:tot.natAbs.log2=K + 1:=by rw [a5];exact dlog_of (Nat.le_refl _) (Nat.pow_lt_pow_right (by decide) (by omega))
      exact .inr ⟨by rw [a4];exact a5,by omega⟩
    · have a4:=(Nat.log2_lt h0).2 (show tot.natAbs < 2 ^ (K + 1) by omega)
      exact .inl (by omega)
  · exfalso
    have m0:m=0:=by unfold Lw at hm;omega
    have n0:n=0:=by unfold Lw at hn;omega
    rw [m0,Nat.zero_shiftLeft] at s1
    rw [n0,Nat.zero_shiftLeft] at s2
    rw [m0,n0] at h
    omega
theorem faS [hx:Bd e x] [hy:Bd f y] (h:e ≤ 1000 ∧ f ≤ 1000:=by decide):(FloatKind.f64.format.add x y).isSome=true:=by
  obtain ⟨s,m,i,h1,_⟩:=hx.bd h.1
  obtain ⟨t,n,j,h2,_⟩:=hy.bd h.2
  obtain ⟨_,_,h3⟩:=sum_eq h1 h2
  rw [h3];rfl
theorem fsS [hx:Bd e x] [hy:Bd f y] (h:e ≤ 1000 ∧ f ≤ 1000:=by decide):(FloatKind.f64.format.sub x y).isSome=true:=by
  obtain ⟨s,m,i,h1,_⟩:=hx.bd h.1
  obtain ⟨t,n,j,h2,_⟩:=hy.bd h.2
  obtain ⟨_,_,h3⟩:=sub_eq' h1 h2
  rw [h3];rfl
instance bdA [hx:Bd e x] [hy:Bd f y]:Bd (max e f + 1) (fadd x y):=⟨fun he=>by
  obtain ⟨s,m,i,h1,k1⟩:=hx.bd (by omega)
  obtain ⟨t,n,j,h2,k2⟩:=hy.bd (by omega)
  obtain ⟨tot,h3,h4⟩:=sum_eq h1 h2
  obtain ⟨m',p',r1,r2,_⟩:=round_bd (if tot=0 then s && t else tot < 0) (sum_bd k1 k2 h3) (by omega) (by omega)
  refine ⟨(if tot=0 then s && t else tot < 0:Bool),m',p',?_,r2.mono (by omega)⟩
  unfold fadd;rw [h4];exact r1⟩
instance bdB [hx:Bd e x] [hy:Bd f y]:Bd (max e f + 1) (fsub x y):=⟨fun he=>by
  obtain ⟨s,m,i,h1,k1⟩:=hx.bd (by omega)
  obtain ⟨t,n,j,h2,k2⟩:=hy.bd (by omega)
  obtain ⟨tot,h3,h4⟩:=sub_eq' h1 h2
  obtain ⟨m',p',r1,r2,_⟩:=round_bd (if tot=0 then s && !t else tot < 0) (sum_bd k1 k2 h3) (by omega) (by omega)
  refine ⟨(if tot=0 then s && !t else tot < 0:Bool),m',p',?_,r2.mono (by omega)⟩
  unfold fsub;rw [h4];exact r1⟩
theorem signed_pos (m a:Nat):Ieee.signed false m a=((m <<< a:Nat):Int):=rfl
instance poA [hx:Po e x] [hy:Po f y]:Po (max e f + 1) (fadd x y):=⟨fun he=>by
  obtain ⟨m,i,h1,k1⟩:=hx.po (by omega)
  obtain ⟨n,j,h2,k2⟩:=hy.po (by omega)
  obtain ⟨tot,h3,h4⟩:=sum_eq h1 h2
  obtain ⟨m',p',r1,r2,_⟩:=round_bd (if tot=0 then false && false else tot < 0) (sum_bd k1 k2 h3) (by omega) (by omega)
  rw [signed_pos,signed_pos] at h3
  have h5:0 ≤ tot:=by rw [h3];exact Int.add_nonneg (Int.natCast_nonneg _) (Int.natCast_nonneg _)
  have e1:(if tot=0 then false && false else decide (tot < 0))=false:=by split;rfl;exact decide_eq_false (by omega)
  refine ⟨m',p',?_,r2.mono (by omega)⟩
  unfold fadd;rw [h4]
  rw [e1] at r1 ⊢;exact r1⟩
instance pgA [hx:Po e x] [hy:Pg f y]:Pg (max e f + 1) (fadd x y):=⟨fun he=>by
  obtain ⟨m,i,h1,k1⟩:=hx.po (by omega)
  obtain ⟨n,j,h2,k2,k3,k4⟩:=hy.pg (by omega)
  obtain ⟨tot,h3,h4⟩:=sum_eq h1 h2
  obtain ⟨m',p',r1,r2,r3⟩:=round_bd (if tot=0 then false && false else tot < 0) (sum_bd k1 k2 h3) (by omega) (by omega)
  rw [signed_pos,signed_pos] at h3
  have h5:0 ≤ tot:=by rw [h3];exact Int.add_nonneg (Int.natCast_nonneg _) (Int.natCast_nonneg _)
  have e1:(if tot=0 then false && false else decide (tot < 0))=false:=by split;rfl;exact decide_eq_false (by omega)
  have q1:2 ^ (n.log2 + (j - min i j).toNat) ≤ n <<< (j - min i j).toNat:=by
    rw [Nat.shiftLeft_eq,Nat.pow_add];exact Nat.mul_le_mul_right _ (Nat.log2_self_le k3)
  have h6:tot.natAbs=m <<< (i - min i j).toNat + n <<< (j - min i j).toNat:=by rw [h3,← Int.natCast_add];exact Int.natAbs_natCast _
  generalize n <<< (j - min i j).toNat=B at q1 h6
  generalize m <<< (i - min i j).toNat=A at h6
  have q2:tot.natAbs ≠ 0:=by have:=Nat.two_pow_pos (n.log2 + (j - min i j).toNat);omega
  have q3:n.log2 + (j - min i j).toNat ≤ tot.natAbs.log2:=(Nat.le_log2 q2).2 (by omega)
  have r4:=r3 q2 (by omega)
  refine ⟨m',p',?_,r2.mono (by omega),r4⟩
  unfold fadd;rw [h4]
  rw [e1] at r1 ⊢;exact r1⟩
theorem quo_bd {m n:Nat} {i j:Int} (hm:Lw m i e) (hm0:m ≠ 0) (hn:n ≠ 0) (hn2:0 ≤ (n.log2:Int) + j) (more:Nat) (hmore:n.log2 ≤ m.log2 + more) :
    Lw (2 * (m <<< more / n) + (m <<< more % n != 0).toNat) (i - j - more - 1) e:=by
  unfold Lw at *
  by_cases h0:2 * (m <<< more / n) + (m <<< more % n != 0).toNat=0
  · exact .inl h0
  refine .inr ?_
  have b:=Bool.toNat_le (m <<< more % n != 0)
  have a:m < 2 ^ (m.log2 + 1):=Nat.lt_log2_self
  have a1:=Nat.log2_self_le hn
  rcases hm.resolve_left hm0 with h | ⟨h,h3⟩
  · have c:=Nat.mul_lt_mul_of_pos_right a (Nat.two_pow_pos more)
    rw [← Nat.pow_add,← Nat.shiftLeft_eq] at c
    obtain ⟨k,hk⟩:∃ k,k=m.log2 + 1 + more - n.log2:=⟨_,rfl⟩
    have d:m <<< more / n < 2 ^ k:=by
      rw [Nat.div_lt_iff_lt_mul (Nat.pos_of_ne_zero hn)]
      refine Nat.lt_of_lt_of_le c ?_
      rw [show m.log2 + 1 + more=k + n.log2 by omega,Nat.pow_add]
      exact Nat.mul_le_mul_left _ a1
    have g:2 * (m <<< more / n) + (m <<< more % n != 0).toNat < 2 ^ (k + 1):=by rw [Nat.pow_succ];omega
    have:=(Nat.log2_lt h0).2 g
    exact .inl (by omega)
  · obtain ⟨k,hk⟩:∃ k,k=m.log2 + more - n.log2:=⟨_,rfl⟩
    have hD:m <<< more=2 ^ k * 2 ^ n.log2:=by rw [Nat.shiftLeft_eq,← Nat.pow_add,show k + n.log2=m.log2 + more by omega,Nat.pow_add,← h]
    by_cases hn3:n=2 ^ n.log2
    · have d:m <<< more / n=2 ^ k:=by rw [hD,← hn3];exact Nat.mul_div_cancel _ (Nat.pos_of_ne_zero hn)
      have d2:m <<< more % n=0:=by rw [hD,← hn3];exact Nat.mul_mod_left _ _
      rw [d,d2] at h0 ⊢
      have g:2 * 2 ^ k + ((0:Nat) != 0).toNat=2 ^ (k + 1):=by rw [Nat.pow_succ,Nat.mul_comm];rfl
      rw [g]
      have g2:(2 ^ (k + 1)).log2=k + 1:=dlog_of (Nat.le_refl _) (Nat.pow_lt_pow_right (by decide) (by omega))
      rw [g2]
      by_cases g3:(n.log2:Int) + j=0
      · exact .inr ⟨rfl,by omega⟩
      · exact .inl (by omega)
    · have d:m <<< more / n < 2 ^ k:=by
        rw [Nat.div_lt_iff_lt_mul (Nat.pos_of_ne_zero hn),hD]
        exact Nat.mul_lt_mul_of_pos_left (by omega) (Nat.two_pow_pos k)
      have g:2 * (m <<< more / n) + (m <<< more % n != 0).toNat < 2 ^ (k + 1):=by rw [Nat.pow_succ];omega
      have:=(Nat.log2_lt h0).2 g
      exact .inl (by omega)
theorem div_eq' {s t:Bool} {m n:Nat} {i j:Int} (hx:DD.read x=.number s m i) (hy:DD.read y=.number t n j) (hn:n ≠ 0):∃ more:Nat,more=54 + n.log2 - m.log2 ∧
    DD.div x y=some (DD.nearest (s ^^ t) (2 * (m <<< more / n) + (m <<< more % n != 0).toNat) (i - j - more - 1)):=by
  refine ⟨_,rfl,?_⟩
  unfold Ieee.Format.div;rw [hx,hy]
  simp only [Ieee.Datum.quotient,if_neg hn,dd_frac]
  rfl
theorem fdS [hx:Bd e x] [hy:Ge f y] (h:e ≤ 1000 ∧ f ≤ 1000:=by decide):(FloatKind.f64.format.div x y).isSome=true:=by
  obtain ⟨s,m,i,h1,_⟩:=hx.bd h.1
  obtain ⟨t,n,j,h2,_,h4,_⟩:=hy.ge h.2
  obtain ⟨_,_,h3⟩:=div_eq' h1 h2 h4
  rw [h3];rfl
theorem zero_div {n more:Nat}:2 * (0 <<< more / n) + (0 <<< more % n != 0).toNat=0:=by simp
theorem quo_bd' {m n:Nat} {i j:Int} (hm2:Lw m i e) (hn:n ≠ 0) (hn2:0 ≤ (n.log2:Int) + j) {more:Nat} (hmore:more=54 + n.log2 - m.log2) :
    Lw (2 * (m <<< more / n) + (m <<< more % n != 0).toNat) (i - j - more - 1) e:=by
  by_cases hm:m=0
  · subst hm;exact .inl zero_div
  · exact quo_bd hm2 hm hn hn2 more (by omega)
theorem bd_div [hx:Bd e x] [hy:Ge f y] (hf:f ≤ 1000:=by decide):Bd e (fdiv x y):=⟨fun he=>by
  obtain ⟨s,m,i,h1,k1⟩:=hx.bd he
  obtain ⟨t,n,j,h2,k2,k3,k4⟩:=hy.ge hf
  obtain ⟨more,h3,h4⟩:=div_eq' h1 h2 k3
  obtain ⟨m',p',r1,r2,_⟩:=round_bd (s ^^ t) (quo_bd' k1 k3 k4 h3) (by omega) (by omega)
  refine ⟨(s ^^ t:Bool),m',p',?_,r2⟩
  unfold fdiv;rw [h4];exact r1⟩
instance bdD [hx:Bd e x] [hy:Ge f y]:Bd (max e f) (fdiv x y):=⟨fun he=>by
  obtain ⟨s,m,i,h1,k1⟩:=hx.bd (by omega)
  obtain ⟨t,n,j,h2,k2,k3,k4⟩:=hy.ge (by omega)
  obtain ⟨more,h3,h4⟩:=div_eq' h1 h2 k3
  obtain ⟨m',p',r1,r2,_⟩:=round_bd (s ^^ t) (quo_bd' k1 k3 k4 h3) (by omega) (by omega)
  refine ⟨(s ^^ t:Bool),m',p',?_,r2.mono (by omega)⟩
  unfold fdiv;rw [h4];exact r1⟩
instance poD [hx:Po e x] [hy:Pg f y]:Po (max e f) (fdiv x y):=⟨fun he=>by
  obtain ⟨m,i,h1,k1⟩:=hx.po (by omega)
  obtain ⟨n,j,h2,k2,k3,k4⟩:=hy.pg (by omega)
  obtain ⟨more,h3,h4⟩:=div_eq' h1 h2 k3
  obtain ⟨m',p',r1,r2,_⟩:=round_bd (false ^^ false) (quo_bd' k1 k3 k4 h3) (by omega) (by omega)
  refine ⟨m',p',?_,r2.mono (by omega)⟩
  unfold fdiv;rw [h4];exact r1⟩
end
end Go.Eng
end
section
namespace Go.Eng
open Go.RowKit (Below)
def litB (e x:Nat) (s g:Bool):Bool:=match DD.read x with
  | .number t m p=>(!s || !t) && (decide (m=0) || (decide ((m.log2:Int) + p < e) || (decide (m=2 ^ m.log2) && decide ((m.log2:Int) + p=e)))) && (!g || (decide (m ≠ 0) && decide (0 ≤ (m.log2:Int) + p)))
  | _=>false
theorem lit_ok {e x:Nat} {s g:Bool} (h:litB e x s g=true):∃ t m p,DD.read x=.number t m p ∧ (s=true → t=false) ∧ Lw m p e ∧ (g=true → m ≠ 0 ∧ 0 ≤ (m.log2:Int) + p):=by
  unfold litB at h
  split at h
  · rename_i t m p hr
    simp only [Bool.and_eq_true,Bool.or_eq_true,Bool.not_eq_true',decide_eq_true_eq] at h
    refine ⟨t,m,p,hr,fun hs=>h.1.1.resolve_left (by rw [hs];decide),h.1.2,fun hg=>h.2.resolve_left (by rw [hg];decide)⟩
  · cases h
section
variable {e x:Nat}
theorem bd_lit (h:litB e x false false=true):Bd e x:=⟨fun _=>by obtain ⟨t,m,p,h1,_,h2,_⟩:=lit_ok h;exact ⟨t,m,p,h1,h2⟩⟩
theorem po_lit (h:litB e x true false=true):Po e x:=⟨fun _=>by obtain ⟨t,m,p,h1,h0,h2,_⟩:=lit_ok h;rw [h0 rfl] at h1;exact ⟨m,p,h1,h2⟩⟩
theorem pg_lit (h:litB e x true true=true):Pg e x:=⟨fun _=>by obtain ⟨t,m,p,h1,h0,h2,h3⟩:=lit_ok h;rw [h0 rfl] at h1;exact ⟨m,p,h1,h2,h3 rfl⟩⟩
end
set_option maxRecDepth 4000
instance:Pg 1 4608412980311869571:=pg_lit (by decide)
instance:Pg 0 4607182418800017408:=pg_lit (by decide)
instance:Po 0 4605249456957292544:=po_lit (by decide)
instance:Po 0 4495793288086814720:=po_lit (by decide)
instance:Po 0 4388835458085048688:=po_lit (by decide)
instance:Po 0 4602678819172646912:=po_lit (by decide)
instance:Po 0 4460209587652500685:=po_lit (by decide)
instance:Bd 0 13716528389658582877:=bd_lit (by decide)
instance:Po 0 4523617212962785441:=po_lit (by decide)
instance:Bd 0 13774824197404483331:=bd_lit (by decide)
instance:Po 0 4575957461383575504:=po_lit (by decide)
instance:Bd 0 13818544856648471880:=bd_lit (by decide)
instance:Bd 0 13666448263388469915:=bd_lit (by decide)
instance:Po 0 4477121864728985349:=po_lit (by decide)
instance:Bd 0 13732177093698800582:=bd_lit (by decide)
instance:Po 0 4537941361668146421:=po_lit (by decide)
instance:Bd 0 13787419979223748497:=bd_lit (by decide)
instance:Po 0 4586165620538955083:=po_lit (by decide)
instance:Pg 14 4670232813583204352:=pg_lit (by decide)
instance:Pg 2 4614256656552045848:=pg_lit (by decide)
instance:Pg 11 4656722014701092864:=pg_lit (by decide)
instance:Bd 0 13829429103926125972:=bd_lit (by decide)
instance:Bd 5 13848613196940411002:=bd_lit (by decide)
instance:Bd 7 13858350711815275123:=bd_lit (by decide)
instance:Bd 7 13861719834326579749:=bd_lit (by decide)
instance:Bd 7 13857635882265799822:=bd_lit (by decide)
instance:Pg 5 4627690253511319612:=pg_lit (by decide)
instance:Pg 8 4640010388282866213:=pg_lit (by decide)
instance:Pg 9 4646322940342877755:=pg_lit (by decide)
instance:Pg 9 4647246694406179306:=pg_lit (by decide)
instance:Pg 8 4641049159275471596:=pg_lit (by decide)
instance:Po 0 4604119971053405471:=po_lit (by decide)
instance:Pg 2 4612618744449965542:=pg_lit (by decide)
instance:Pg 1 4609753056924675352:=pg_lit (by decide)
instance:Po 0 4364452196894661639:=po_lit (by decide)
instance:Po 0 4605249457297304856:=po_lit (by decide)
instance:Po 0 4359948597267291143:=po_lit (by decide)
instance:Po 0 0:=po_lit (by decide)
section
variable {e f x y:Nat}
theorem dbl_near (n:Int):dbl n=DD.nearest (n < 0) n.natAbs 0:=rfl
theorem dbl_log {n:Int} (h:n.natAbs < 2 ^ e):Lw n.natAbs 0 e:=by
  by_cases h0:n.natAbs=0
  · exact .inl h0
  · have:=(Nat.log2_lt h0).2 h;exact .inr (.inl (by omega))
theorem bd_dbl {n:Int} (e:Nat) (h:n.natAbs < 2 ^ e):Bd e (dbl n):=⟨fun he=>by
  obtain ⟨m',p',r1,r2,_⟩:=round_bd (n < 0) (dbl_log h) (by omega) (by omega)
  exact ⟨_,m',p',r1,r2⟩⟩
theorem ge_dbl {n:Int} (e:Nat) (h:n.natAbs < 2 ^ e) (h0:n ≠ 0):Ge e (dbl n):=⟨fun he=>by
  obtain ⟨m',p',r1,r2,r3⟩:=round_bd (n < 0) (dbl_log h) (by omega) (by omega)
  have:=r3 (by omega) (by omega)
  exact ⟨_,m',p',r1,r2,this⟩⟩
theorem po_dbl {n:Int} (e:Nat) (h:n.natAbs < 2 ^ e) (h0:0 ≤ n):Po e (dbl n):=⟨fun he=>by
  obtain ⟨m',p',r1,r2,_⟩:=round_bd false (dbl_log h) (by omega) (by omega)
  refine ⟨m',p',?_,r2⟩
  rw [dbl_near,decide_eq_false (by omega)];exact r1⟩
theorem int_bd {m:Nat} {p:Int} (h:Lw m p e):(m <<< p.toNat) / 2 ^ (min (-p).toNat ((m <<< p.toNat).log2 + 2)) ≤ 2 ^ e:=by
  by_cases hp:0 ≤ p
  · rw [show (-p).toNat=0 by omega,Nat.zero_min,Nat.pow_zero,Nat.div_one]
    have:=shl_le (b:=0) (K:=e) (by rw [Int.zero_add];exact h) hp
    rwa [Int.sub_zero] at this
  unfold Lw at h
  by_cases h0:m=0
  · rw [h0,Nat.zero_shiftLeft,Nat.zero_div];exact Nat.zero_le _
  have h:=h.resolve_left h0
  have a:m < 2 ^ (m.log2 + 1):=Nat.lt_log2_self
  rw [show p.toNat=0 by omega,Nat.shiftLeft_zero]
  by_cases hq:(-p).toNat ≤ m.log2 + 2
  · rw [Nat.min_eq_left hq]
    rcases h with h | ⟨h,h3⟩
    · refine Nat.le_of_lt ?_
      rw [Nat.div_lt_iff_lt_mul (Nat.two_pow_pos _),← Nat.pow_add]
      exact Nat.lt_of_lt_of_le a (Nat.pow_le_pow_right (by decide) (by omega))
    · refine Nat.div_le_of_le_mul ?_
      rw [← Nat.pow_add]
      refine Nat.le_trans (Nat.le_of_eq h) (Nat.pow_le_pow_right (by decide) (by omega))
  · rw [Nat.min_eq_right (by omega),Nat.div_eq_of_lt (Nat.lt_of_lt_of_le a (Nat.pow_le_pow_right (by decide) (by omega)))]
    exact Nat.zero_le _
theorem cutz (neg:Bool) (n drop:Nat):Ieee.Toward.zero.cut neg n drop=n / 2 ^ (min drop (n.log2 + 2)):=by
  unfold Ieee.Toward.cut
  simp only [Nat.one_shiftLeft,Bool.toNat_false,Nat.add_zero]
theorem f2i_bd [h:Bd e x] (he:e ≤ 1000):∃ (s:Bool) (a:Nat),a ≤ 2 ^ e ∧ (FloatKind.f64.decode x).toInt .zero=some (if s then -(a:Int) else a) ∧ f2i x=if s then -(a:Int) else a:=by
  obtain ⟨s,m,p,h1,h2⟩:=h.bd he
  have hb:=int_bd h2
  have hr:FloatKind.f64.decode x=.number s m p:=h1
  have ht:(FloatKind.f64.decode x).toInt .zero=some (if s then -((m <<< p.toNat / 2 ^ (min (-p).toNat ((m <<< p.toNat).log2 + 2)):Nat):Int) else (m <<< p.toNat / 2 ^ (min (-p).toNat ((m <<< p.toNat).log2 + 2)):Nat)):=by
    rw [hr]
    simp only [Ieee.Datum.toInt,Ieee.Datum.integral,cutz,Ieee.signed,Nat.shiftLeft_zero]
  exact ⟨s,_,hb,ht,by unfold f2i;rw [ht];rfl⟩
theorem f2S_i64 [h:Bd e x] (he:e ≤ 62:=by decide):floatToIntVal .f64 x .i64=some (f2i x):=by
  obtain ⟨s,a,h1,h2,h3⟩:=f2i_bd (x:=x) (e:=e) (by omega)
  have h4:2 ^ e ≤ 2 ^ 62:=Nat.pow_le_pow_right (by decide) he
  have h5:(2:Nat) ^ 62=4611686018427387904:=rfl
  have m1:IntKind.i64.min=-9223372036854775808:=rfl
  have m2:IntKind.i64.max=9223372036854775807:=rfl
  unfold floatToIntVal
  rw [h2,h3]
  simp only
  rw [m1,m2,if_pos (by split <;> omega)]
theorem f2S_u64 [h:Po e x] (he:e ≤ 62:=by decide):floatToIntVal .f64 x .u64=some (f2i x):=by
  obtain ⟨m,p,h1,h2⟩:=h.po (by omega)
  have hb:=int_bd h2
  have hr:FloatKind.f64.decode x=.number false m p:=h1
  have h4:2 ^ e ≤ 2 ^ 62:=Nat.pow_le_pow_right (by decide) he
  have h5:(2:Nat) ^ 62=4611686018427387904:=rfl
  have ht:(FloatKind.f64.decode x).toInt .zero=some ((m <<< p.toNat / 2 ^ (min (-p).toNat ((m <<< p.toNat).log2 + 2)):Nat):Int):=by
    rw [hr]
    simp only [Ieee.Datum.toInt,Ieee.Datum.integral,cutz,Ieee.signed,Nat.shiftLeft_zero,Bool.false_eq_true,if_false]
  have m1:IntKind.u64.min=0:=rfl
  have m2:IntKind.u64.max=18446744073709551615:=rfl
  obtain ⟨a,ha⟩:∃ a,m <<< p.toNat / 2 ^ (min (-p).toNat ((m <<< p.toNat).log2 + 2))=a:=⟨_,rfl⟩
  rw [ha] at hb ht
  unfold floatToIntVal f2i
  rw [ht]
  simp only
  rw [m1,m2,if_pos (by omega)]
  rfl
theorem f2i_po [h:Po e x] (he:e ≤ 1000:=by decide):0 ≤ f2i x ∧ (f2i x).natAbs ≤ 2 ^ e:=by
  obtain ⟨m,p,h1,h2⟩:=h.po he
  have hb:=int_bd h2
  have hr:FloatKind.f64.decode x=.number false m p:=h1
  have ht:f2i x=((m <<< p.toNat / 2 ^ (min (-p).toNat ((m <<< p.toNat).log2 + 2)):Nat):Int):=by
    unfold f2i;rw [hr]
    simp only [Ieee.Datum.toInt,Ieee.Datum.integral,cutz,Ieee.signed,Nat.shiftLeft_zero,Bool.false_eq_true,if_false,Option.getD_some]
  rw [ht]
  exact ⟨Int.natCast_nonneg _,by rw [Int.natAbs_natCast];exact hb⟩
theorem floor_read [h:Bd e x] (he:e ≤ 1000):∃ (s:Bool) (a:Nat),a ≤ 2 ^ e + 1 ∧ FloatKind.f64.encode ((FloatKind.f64.decode x).integral .down)=DD.nearest s a 0:=by
  obtain ⟨s,m,p,h1,h2⟩:=h.bd he
  have hb:=int_bd h2
  have hr:FloatKind.f64.decode x=.number s m p:=h1
  refine ⟨s,Ieee.Toward.down.cut s (m <<< p.toNat) (-p).toNat,?_,by rw [hr];rfl⟩
  have:=(cut_le .down s (m <<< p.toNat) (-p).toNat).2
  omega
instance bdF [h:Bd e x]:Bd (e + 1) (ffloor x):=⟨fun he=>by
  obtain ⟨s,a,h1,h2⟩:=floor_read (x:=x) (e:=e) (by omega)
  have h3:Lw a 0 ((e + 1:Nat):Int):=by
    by_cases h0:a=0
    · exact .inl h0
    have hp:=Nat.two_pow_pos e
    by_cases h5:a=2 ^ (e + 1)
    · have a4:a.log2=e + 1:=by rw [h5];exact dlog_of (Nat.le_refl _) (Nat.pow_lt_pow_right (by decide) (by omega))
      exact .inr (.inr ⟨by rw [a4];exact h5,by omega⟩)
    · have:=(Nat.log2_lt h0).2 (show a < 2 ^ (e + 1) by rw [Nat.pow_succ] at h5 ⊢;omega)
      exact .inr (.inl (by omega))
  obtain ⟨m',p',r1,r2,_⟩:=round_bd s h3 (by omega) (by omega)
  refine ⟨s,m',p',?_,r2⟩
  unfold ffloor;rw [h2];exact r1⟩
theorem fflS [h:Bd e x] (he:e ≤ 1000:=by decide):∃ s m p,FloatKind.f64.decode x=.number s m p:=by
  obtain ⟨s,m,p,h1,_⟩:=h.bd he
  exact ⟨s,m,p,h1⟩
theorem run_ffloor {f:FuncId} {P:Program} {w:World} {fn:Func} {b:Nat} (hf:P.funcs[f]? = some fn) (hname:(fn.name == "runtime.NumGoroutine")=false) (hb:fn.body.isNone=true) (hn:Extern.findNext fn=none)
    (he:Extern.find fn=some (Extern.MathFloor.toIntegral "math.archFloor" .down)) (hx:∃ s m p,FloatKind.f64.decode b=.number s m p):(callFunc f #[.float .f64 b]).run P w=.ok (.value (.float .f64 (ffloor b))) w:=by
  rw [run_callFunc_extern hf hname hb hn he]
  obtain ⟨s,m,p,h⟩:=hx
  have e:Extern.MathFloor.toIntegral "math.archFloor" .down #[.float .f64 b]=pure (.float .f64 (ffloor b)):=by
    unfold ffloor
    conv=>lhs;whnf
    rw [h]
  rw [e]
  rfl
def mkD (s:Bool) (r:Nat):Ieee.Datum :=
  if r < DD.binade then .number s r DD.leastPlace else if r < DD.infRung then .number s (DD.binade + r % DD.binade) (DD.leastPlace + (r / DD.binade - 1:Nat)) else if r=DD.infRung then .infinity s else .nan s (r - DD.infRung)
theorem read_mk (x:Nat):DD.read x=mkD (x / DD.signWeight % 2 == 1) (x % DD.signWeight):=rfl
theorem mkD_opp (s:Bool) (r:Nat):mkD (!s) r=(mkD s r).opposite:=by
  unfold mkD
  by_cases c1:r < DD.binade
  · rw [if_pos c1,if_pos c1];rfl
  rw [if_neg c1,if_neg c1]
  by_cases c2:r < DD.infRung
  · rw [if_pos c2,if_pos c2];rfl
  rw [if_neg c2,if_neg c2]
  by_cases c3:r=DD.infRung
  · rw [if_pos c3,if_pos c3];rfl
  · rw [if_neg c3,if_neg c3];rfl
theorem mkD_num {s:Bool} {r m:Nat} {p:Int} (h:mkD s r=.number s m p) (t:Bool):mkD t r=.number t m p:=by
  unfold mkD at h ⊢
  by_cases c1:r < DD.binade
  · rw [if_pos c1] at h ⊢;cases h;rfl
  rw [if_neg c1] at h ⊢
  by_cases c2:r < DD.infRung
  · rw [if_pos c2] at h ⊢;cases h;rfl
  rw [if_neg c2] at h
  by_cases c3:r=DD.infRung
  · rw [if_pos c3] at h;cases h
  · rw [if_neg c3] at h;cases h
theorem mkD_sign {s t:Bool} {r m:Nat} {p:Int} (h:mkD s r=.number t m p):t=s:=by
  unfold mkD at h
  by_cases c1:r < DD.binade
  · rw [if_pos c1] at h;cases h;rfl
  rw [if_neg c1] at h
  by_cases c2:r < DD.infRung
  · rw [if_pos c2] at h;cases h;rfl
  rw [if_neg c2] at h
  by_cases c3:r=DD.infRung
  · rw [if_pos c3] at h;cases h
  · rw [if_neg c3] at h;cases h
theorem read_sign (x:Nat):DD.read (fneg x)=(DD.read x).opposite:=by
  have h1:(x ^^^ 9223372036854775808) % 9223372036854775808=x % 9223372036854775808:=by
    have:=Nat.xor_mod_two_pow (a:=x) (b:=9223372036854775808) (n:=63)
    rw [show (2:Nat) ^ 63=9223372036854775808 from rfl,Nat.mod_self,Nat.xor_zero] at this
    exact this
  have h2:(x ^^^ 9223372036854775808) / 9223372036854775808=(x / 9223372036854775808) ^^^ 1:=by
    have:=Nat.xor_div_two_pow (a:=x) (b:=9223372036854775808) (n:=63)
    rw [show (2:Nat) ^ 63=9223372036854775808 from rfl] at this
    rw [this]
  have h3:(((x / 9223372036854775808) ^^^ 1) % 2 == 1)=!(x / 9223372036854775808 % 2 == 1):=by
    have:=Nat.xor_mod_two_pow (a:=x / 9223372036854775808) (b:=1) (n:=1)
    rw [Nat.pow_one] at this
    rw [this]
    rcases Nat.mod_two_eq_zero_or_one (x / 9223372036854775808) with h | h <;> rw [h] <;> rfl
  rw [read_mk,read_mk,fneg,dd_sign,h1,h2,h3,mkD_opp]
instance bdN [h:Bd e x]:Bd e (fneg x):=⟨fun he=>by
  obtain ⟨s,m,p,h1,h2⟩:=h.bd he
  exact ⟨!s,m,p,by rw [read_sign,h1];rfl,h2⟩⟩
theorem order_num {s t:Bool} {m n:Nat} {i j:Int} (hx:DD.read x=.number s m i) (hy:DD.read y=.number t n j):fcm x y=some (compare (Ieee.signed s m (i - min i j).toNat) (Ieee.signed t n (j - min i j).toNat)):=by
  unfold fcm Ieee.Format.order
  rw [show FloatKind.f64.format.read x=.number s m i from hx,show FloatKind.f64.format.read y=.number t n j from hy];rfl
theorem dcmp_self (a:Int):compare a a=Ordering.eq:=by
  show compareOfLessAndEq a a=_
  unfold compareOfLessAndEq
  rw [if_neg (by omega),if_pos rfl]
theorem dcmp_lt {a b:Int}:compare a b=Ordering.lt ↔ a < b:=by
  show compareOfLessAndEq a b=_ ↔ _
  unfold compareOfLessAndEq
  by_cases h:a < b
  · simp [h]
  · by_cases h2:a=b <;> simp [h,h2]
theorem dcmp_gt {a b:Int}:compare a b=Ordering.gt ↔ b < a:=by
  show compareOfLessAndEq a b=_ ↔ _
  unfold compareOfLessAndEq
  by_cases h:a < b
  · simp [h];omega
  · by_cases h2:a=b <;> simp [h,h2];omega
theorem fne_self [h:Bd e x] (he:e ≤ 1000:=by decide):fne x x=false:=by
  obtain ⟨s,m,p,h1,_⟩:=h.bd he
  unfold fne;rw [order_num h1 h1,dcmp_self];rfl
theorem signed_le {s:Bool} {m a:Nat}:Ieee.signed s m a ≤ ((m <<< a:Nat):Int):=by
  unfold Ieee.signed;cases s
  · exact Int.le_refl _
  · have:=Int.natCast_nonneg (m <<< a)
    show -((m <<< a:Nat):Int) ≤ _
    generalize ((m <<< a:Nat):Int)=z at this ⊢
    omega
theorem fge_no [h:Bd e x] {n:Nat} {j:Int} (hy:DD.read y=.number false n j) (hn:n ≠ 0) (hj:(e:Int) < n.log2 + j) (he:e ≤ 1000):fge x y=false:=by
  obtain ⟨s,m,i,h1,h2⟩:=h.bd he
  have hlt:Ieee.signed s m (i - min i j).toNat < Ieee.signed false n (j - min i j).toNat:=by
    refine Int.lt_of_le_of_lt signed_le ?_
    rw [signed_pos]
    refine Int.ofNat_lt.2 ?_
    have q1:2 ^ (n.log2 + (j - min i j).toNat) ≤ n <<< (j - min i j).toNat:=by
      rw [Nat.shiftLeft_eq,Nat.pow_add];exact Nat.mul_le_mul_right _ (Nat.log2_self_le hn)
    refine Nat.lt_of_lt_of_le ?_ q1
    by_cases hz:0 ≤ (e:Int) - min i j
    · have c:=shl_le (m:=m) (i:=i) (b:=min i j) (K:=((e:Int) - min i j).toNat) (h2.mono (by omega)) (by omega)
      exact Nat.lt_of_le_of_lt c (Nat.pow_lt_pow_right (by decide) (by omega))
    · have m0:m=0:=by unfold Lw at h2;omega
      rw [m0,Nat.zero_shiftLeft];exact Nat.two_pow_pos _
  unfold fge;rw [order_num h1 hy,dcmp_lt.2 hlt];rfl
theorem fge_thr [h:Bd e x] (he:e < 29:=by decide):fge x 4737786807993761792=false:=by
  refine fge_no (n:=4503599627370496) (j:=-23) rfl (by decide) ?_ (by omega)
  rw [show Nat.log2 4503599627370496=52 from dlog_of (by decide) (by decide)];omega
theorem fgt_max [h:Bd e x] (he:e ≤ 1000:=by decide):fgt x 9218868437227405311=false:=by
  have g:fge x 9218868437227405311=false:=by
    refine fge_no (n:=9007199254740991) (j:=971) rfl (by decide) ?_ he
    rw [show Nat.log2 9007199254740991=52 from dlog_of (by decide) (by decide)];omega
  unfold fge at g;unfold fgt
  exact (Bool.or_eq_false_iff.1 g).1
theorem read_z:DD.read 0=.number false 0 (-1074):=rfl
theorem sgn_zero (a:Nat):Ieee.signed false 0 a=0:=by unfold Ieee.signed;rw [Nat.zero_shiftLeft];rfl
theorem flt_po [h:Po e x] (he:e ≤ 1000:=by decide):flt x 0=false:=by
  obtain ⟨m,p,h1,_⟩:=h.po he
  unfold flt;rw [order_num h1 read_z,sgn_zero,signed_pos]
  have:¬ compare ((m <<< (p - min p (-1074)).toNat:Nat):Int) 0=Ordering.lt:=by
    rw [dcmp_lt];exact Int.not_lt.2 (Int.natCast_nonneg _)
  generalize compare ((m <<< (p - min p (-1074)).toNat:Nat):Int) 0=c at this
  cases c
  · exact absurd rfl this
  · rfl
  · rfl
theorem po_of_gt [h:Bd e x] (hg:fgt x 0=true):Po e x:=⟨fun he=>by
  obtain ⟨s,m,p,h1,h2⟩:=h.bd he
  unfold fgt at hg;rw [order_num h1 read_z,sgn_zero] at hg
  have:compare (Ieee.signed s m (p - min p (-1074)).toNat) 0=Ordering.gt:=by
    generalize compare (Ieee.signed s m (p - min p (-1074)).toNat) 0=c at hg
    cases c
    · cases hg
    · cases hg
    · rfl
  rw [dcmp_gt] at this
  cases s
  · exact ⟨m,p,h1,h2⟩
  · exfalso
    have e1:Ieee.signed true m (p - min p (-1074)).toNat=-((m <<< (p - min p (-1074)).toNat:Nat):Int):=rfl
    rw [e1] at this
    have:=Int.natCast_nonneg (m <<< (p - min p (-1074)).toNat)
    generalize ((m <<< (p - min p (-1074)).toNat:Nat):Int)=z at *
    omega⟩
theorem po_of_neg [h:Bd e x] (hz:feq x 0=false) (hg:fgt x 0=false):Po e (fneg x):=⟨fun he=>by
  obtain ⟨s,m,p,h1,h2⟩:=h.bd he
  cases s
  · exfalso
    unfold feq at hz;unfold fgt at hg
    rw [order_num h1 read_z,sgn_zero,signed_pos] at hz hg
    have n1:=Int.natCast_nonneg (m <<< (p - min p (-1074)).toNat)
    generalize ((m <<< (p - min p (-1074)).toNat:Nat):Int)=z at *
    rcases Int.lt_trichotomy 0 z with c | c | c
    · rw [dcmp_gt.2 c] at hg;cases hg
    · subst c;cases hz
    · omega
  · exact ⟨m,p,by rw [read_sign,h1];rfl,h2⟩⟩
theorem pg_of_gt [h:Bd e x] [hy:Pg f y] (hf:f ≤ 1000) (hg:fgt x y=true):Pg e x:=⟨fun he=>by
  obtain ⟨s,m,i,h1,h2⟩:=h.bd he
  obtain ⟨n,j,k1,k2,k3,k4⟩:=hy.pg hf
  unfold fgt at hg;rw [order_num h1 k1,signed_pos] at hg
  have:compare (Ieee.signed s m (i - min i j).toNat) ((n <<< (j - min i j).toNat:Nat):Int)=Ordering.gt:=by
    generalize compare (Ieee.signed s m (i - min i j).toNat) ((n <<< (j - min i j).toNat:Nat):Int)=c at hg
    cases c
    · cases hg
    · cases hg
    · rfl
  rw [dcmp_gt] at this
  have q1:2 ^ (n.log2 + (j - min i j).toNat) ≤ n <<< (j - min i j).toNat:=by
    rw [Nat.shiftLeft_eq,Nat.pow_add];exact Nat.mul_le_mul_right _ (Nat.log2_self_le k3)
  cases s
  · rw [signed_pos] at this
    have t2:=Int.ofNat_lt.1 this
    have m0:m ≠ 0:=by
      intro hm;rw [hm,Nat.zero_shiftLeft] at t2;exact Nat.not_lt_zero _ t2
    have a:m < 2 ^ (m.log2 + 1):=Nat.lt_log2_self
    have c:=Nat.mul_lt_mul_of_pos_right a (Nat.two_pow_pos (i - min i j).toNat)
    rw [← Nat.pow_add,← Nat.shiftLeft_eq] at c
    have d:2 ^ (n.log2 + (j - min i j).toNat) < 2 ^ (m.log2 + 1 + (i - min i j).toNat):=Nat.lt_of_le_of_lt q1 (Nat.lt_trans t2 c)
    have d2:=(Nat.pow_lt_pow_iff_right (by decide:1 < 2)).1 d
    exact ⟨m,i,h1,h2,m0,by omega⟩
  · exfalso
    have e1:Ieee.signed true m (i - min i j).toNat=-((m <<< (i - min i j).toNat:Nat):Int):=rfl
    rw [e1] at this
    have n1:=Int.natCast_nonneg (m <<< (i - min i j).toNat)
    have n2:=Int.natCast_nonneg (n <<< (j - min i j).toNat)
    generalize ((m <<< (i - min i j).toNat:Nat):Int)=z at *
    generalize ((n <<< (j - min i j).toNat:Nat):Int)=z2 at *
    omega⟩
theorem lw_of_shl {m:Nat} {i b:Int} {K:Nat} (h:m <<< (i - b).toNat ≤ 2 ^ K) (hi:b ≤ i):Lw m i (b + K):=by
  by_cases h0:m=0
  · exact .inl h0
  rw [Nat.shiftLeft_eq] at h
  have a1:=Nat.mul_le_mul_right (2 ^ (i - b).toNat) (Nat.log2_self_le h0)
  rw [← Nat.pow_add] at a1
  have a2:=(Nat.pow_le_pow_iff_right (by decide:1 < 2)).1 (Nat.le_trans a1 h)
  by_cases h3:m.log2 + (i - b).toNat=K
  · refine .inr (.inr ⟨?_,by omega⟩)
    rw [← h3,Nat.pow_add] at h
    exact Nat.le_antisymm (Nat.le_of_mul_le_mul_right h (Nat.two_pow_pos _)) (Nat.log2_self_le h0)
  · exact .inr (.inl (by omega))
theorem po_of_ngt [h:Po e x] [hy:Po f y] (hg:fgt x y=false) (he:e ≤ 1000:=by decide):Po f x:=⟨fun hf=>by
  obtain ⟨m,i,h1,h2⟩:=h.po he
  obtain ⟨n,j,k1,k2⟩:=hy.po hf
  unfold fgt at hg;rw [order_num h1 k1,signed_pos,signed_pos] at hg
  have hc:¬ compare ((m <<< (i - min i j).toNat:Nat):Int) ((n <<< (j - min i j).toNat:Nat):Int)=Ordering.gt:=by
    intro hc;rw [hc] at hg;cases hg
  rw [dcmp_gt] at hc
  have hle:m <<< (i - min i j).toNat ≤ n <<< (j - min i j).toNat:=Int.ofNat_le.1 (Int.not_lt.1 hc)
  refine ⟨m,i,h1,?_⟩
  by_cases hz:0 ≤ (f:Int) - min i j
  · have c:=shl_le (m:=n) (i:=j) (b:=min i j) (K:=((f:Int) - min i j).toNat) (k2.mono (by omega)) (by omega)
    exact (lw_of_shl (Nat.le_trans hle c) (by omega)).mono (by omega)
  · have n0:n=0:=by unfold Lw at k2;omega
    rw [n0,Nat.zero_shiftLeft,Nat.shiftLeft_eq] at hle
    have p1:=Nat.two_pow_pos (i - min i j).toNat
    rcases Nat.eq_zero_or_pos m with hm | hm
    · exact .inl hm
    · have:=Nat.mul_pos hm p1;omega⟩
theorem fle_ngt (h:fle x y=true):fgt x y=false:=by
  unfold fle at h;unfold fgt
  generalize fcm x y=c at h
  rcases c with _ | _ | _ | _ <;> first | rfl | cases h
theorem bd_up (h:Bd e x) (hf:e ≤ f:=by decide):Bd f x:=⟨fun he=>by obtain ⟨s,m,p,h1,h2⟩:=h.bd (by omega);exact ⟨s,m,p,h1,h2.mono (by omega)⟩⟩
theorem po_up (h:Po e x) (hf:e ≤ f:=by decide):Po f x:=⟨fun he=>by obtain ⟨m,p,h1,h2⟩:=h.po (by omega);exact ⟨m,p,h1,h2.mono (by omega)⟩⟩
theorem bd_let [h:Bd e x] (hr:x=y):Bd e y:=hr ▸ h
theorem po_let [h:Po e x] (hr:x=y):Po e y:=hr ▸ h
theorem inst_bd [h:Bd e x] (hf:e ≤ f:=by decide):Bd f x:=bd_up h hf
theorem inst_po [h:Po e x] (hf:e ≤ f:=by decide):Po f x:=po_up h hf
def IsI (y:Nat):Prop:=∃ n:Int,n.natAbs < 2 ^ 21 ∧ y=dbl n
theorem isI_bd (h:IsI y):Bd 21 y:=by obtain ⟨n,h1,rfl⟩:=h;exact bd_dbl 21 h1
theorem isI_lt (h:IsI y):y < 18446744073709551616:=by obtain ⟨n,h1,rfl⟩:=h;exact Go.Sky.dbl_lt n
theorem dbl_ne {n:Int} (h:feq (dbl n) 0=false):n ≠ 0:=by
  intro h0;subst h0;cases h
theorem isI_ge (h:IsI y) (h0:feq y 0=false):Ge 21 y:=by obtain ⟨n,h1,rfl⟩:=h;exact ge_dbl 21 h1 (dbl_ne h0)
theorem bd_mod (hxy:x % 9223372036854775808=y % 9223372036854775808) [h:Bd e y]:Bd e x:=⟨fun he=>by
  obtain ⟨s,m,p,h1,h2⟩:=h.bd he
  rw [read_mk] at h1 ⊢
  rw [show x % DD.signWeight=y % DD.signWeight from hxy]
  have hs:=mkD_sign h1
  subst hs
  exact ⟨_,m,p,mkD_num h1 _,h2⟩⟩
end
def TabF (w:World) (g:Nat) (zs:List Nat):Prop:=g < w.heap.size ∧ ∀ i z,zs[i]? = some z → w.cell? ⟨g,i,none⟩=some (.float .f64 z)
theorem feet_no {b:Nat}:¬ feet [] b:=by rintro ⟨_,h,_⟩;cases h
theorem TabF.sat {w0 w:World} {D:Nat → Prop} {M:Mem} {g:Nat} {zs:List Nat} (h:TabF w0 g zs) (hM:Sat ⟨w0,D⟩ M w) (hD:¬ D g:=by first | exact (fun h=>h) | exact feet_no):TabF w g zs:=by
  refine ⟨Nat.lt_of_lt_of_le h.1 hM.chg.size,fun i z hz=>?_⟩
  have:=h.2 i z hz
  unfold World.cell? at this ⊢
  rw [show w.heap[(⟨g,i,none⟩:Addr).block]? = w0.heap[(⟨g,i,none⟩:Addr).block]? from hM.chg.block g h.1 hD]
  exact this
theorem run_load_tab {P:Program} {w:World} {T g i z:Nat} {zs:List Nat} (h:TabF w g zs) (hz:zs[i]? = some z) (hT:isOne P T=true) :
    (sV (Instr.loadAt T (.pointer (some ⟨g,i,none⟩)))).run P w=.ok (.value (.float .f64 z)) w:=by
  have hR:Rd w 1 (some ⟨g,i,none⟩) [#[.float .f64 z]]:=⟨show 1 < 4611686018427387904 by decide,fun k r hk=>by
    cases k with
    | succ k=>cases hk
    | zero =>
      cases hk
      refine ⟨rfl,_,rfl,h.1,fun j v hj=>?_⟩
      cases j with
      | succ j=>simp at hj
      | zero =>
        simp at hj;subst hj
        exact h.2 i z hz⟩
  exact run_load_one (off:=0) (i:=0) (.float .f64 z) hR rfl hT rfl
end Go.Eng
end
