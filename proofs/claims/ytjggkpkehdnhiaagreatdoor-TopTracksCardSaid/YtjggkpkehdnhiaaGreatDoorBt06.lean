/- Lemmas toward the given statement (part 6 of 22): Kb Ra Qa SortLib LaysSpot SortSpot Rb Wb. Each theorem states its own conditions; nothing is assumed beyond them. -/
import Derived.Test.YtjggkpkehdnhiaaGreatDoorBt05
import Derived.Test.YtjggkpkehdnhiaaGreatDoorBt04
import Derived.Test.YtjggkpkehdnhiaaGreatDoorBt03
import Derived.Test.YtjggkpkehdnhiaaGreatDoorBt02
import Derived.Shelf.SlSortCmp.NoneTotal
import Derived.Shelf.SlLaysF0
import Derived.Test.YtjggkpkehdnhiaaGreatDoorRows
section
namespace Go.Sky
open Go Go.Eng Go.Proofs
def YR (f:Za) (x:followed):Bool :=
  f.Track.ID == x.f.Track.ID
set_option maxRecDepth 100000 in
theorem KD (f:Za) (a_x:Addr) (x:followed) (w:World) (h_x:Rd w 23 (some a_x) [followed.c x]):Calls Tryz.prog 118 #[Za.v f,.pointer (some a_x)] w (Ret w (.bool (YR f x))):=by
  exact Zk (vs:=[Za.v f,.pointer (some a_x)]) (w:=w) Tryz.func118 rfl Tryz.ntmps118 rfl (TC.sr (TL.nw 2 (fun b1=>.p0 b1) (fun b1=>Bk b1 (Za.c f) 44) (fun b1=>{}) (fun b1=>TL.r 2 [] [(3,.b false)] {} (TL.nr (TL.r 6 [0] [(6,.i f.Track.ID),(9,.pointer (some a_x))] {} (TL.v (sV (Instr.loadAt 3 (.pointer (some a_x)))) 10 (.i x.f.Track.ID) (fun w hM=>Zs (off:=0) (.i x.f.Track.ID) (h_x.sat hM) (X9 _) Kr Kr) {} (TL.r 9 [] [(3,.b (f.Track.ID == x.f.Track.ID))] {} (TL.next rfl (TC.ret (TE.ret [] (.b (f.Track.ID == x.f.Track.ID)) {} (by unfold YR;refine eS (fun z=>(.b z:Value)) ?_;exact rfl)))))))))))
def Q0 (c0:followed):List Za → Nat → ((Unit) ⊕ (Int))
  | [],_=>.inl ()
  | x :: xs,k=>let r1:=YR x c0
    cond r1 (
      .inr (k:Int)) (
      Q0 c0 xs (k + 1))
def Jp (s:List Za) (c0:followed):Int :=
  Sum.elim (fun _ =>
    (-1)) (fun r=>r) (Q0 c0 s 0)
set_option maxRecDepth 100000 in
theorem WO (A_s:Option Addr) (c_s:Nat) (s:List Za) (a_c0:Addr) (c0:followed) (w:World) (h_s:Rd w 20 A_s (s.map Za.c)) (_hc_s:s.length ≤ c_s) (h_c0:Rd w 23 (some a_c0) [followed.c c0]):Calls Tryz.prog 160 #[.slice A_s s.length c_s,.func (.func 118) #[] #[.pointer (some a_c0)]] w (Ret w (.int .i64 (Jp s c0))):=by
  have s_s:=h_s.short;rw [List.length_map] at s_s
  refine Zk (vs:=[.slice A_s s.length c_s,.func (.func 118) #[] #[.pointer (some a_c0)]]) (w:=w) Tryz.func160 rfl Tryz.ntmps160 rfl (TC.sr (TL.r 1 [] [(4,.i 0)] {} (TL.ns (TC.sr (TL.r 3 [] [(7,.i (s.length:Int)),(8,.i 0)] {} (TL.next rfl ?_))))))
  obtain ⟨R1,hR⟩:∃ R,R=Q0 c0 s 0:=⟨_,rfl⟩
  refine TC.cut (S:=Unit) (fun (_:Unit)=>[]) (fun (_:Unit)=>[]) (fun (_:Unit)=>R1=.inl ()) ?_ ?_
  · refine TC.block (TC.lw (X:=Nat) (fun k=>[(0,.slice A_s s.length c_s),(1,.func (.func 118) #[] #[.pointer (some a_c0)]),(7,.i (s.length:Int)),(8,.i (k:Int))]) (fun k=>[]) (fun k=>s.length - k) (fun k=>k ≤ s.length ∧ R1=Q0 c0 (s.drop k) k) ?_ 0 ⟨Nat.zero_le _,hR⟩ Kr (sb 0))
    rintro k ⟨hk,hI⟩
    refine TC.sr (TL.r 1 [] [(9,.b (decide ((k:Int) < (s.length:Int))))] {} (TL.ns (TC.cond (decide ((k:Int) < (s.length:Int))) rfl Kr (fun h1=>?_) (fun h1=>?_))))
    · have hlt:=ltN h1
      obtain ⟨x,hx⟩:=elN hlt
      have hd:=drop_at hx
      refine TC.sn (TC.seq (TC.block (TC.sr (TL.r 2 [] [(5,.i (k:Int))] {} (TL.nr (TL.r 3 [] [(11,.func (.func 118) #[] #[.pointer (some a_c0)]),(12,.slice A_s s.length c_s),(13,.i (k:Int))] {} (TL.v (sV (Instr.indexAt 31 (.slice A_s s.length c_s) (.i (k:Int)))) 14 (.pointer (some (Ix A_s (k * 20)))) (fun w hM=>Zr (h_s.sat hM) (by simp) Kr sd sd) {} (TL.v (sV (Instr.loadAt 44 (.pointer (some (Ix A_s (k * 20)))))) 15 (Za.v x) (fun w hM=>Z6 (n:=20) (off:=0) (i:=k) (Za.v x) (h_s.sat hM) (ZA hx) Kr Kr Kr) {} (TL.c 16 (YR x c0) (fun r1=>.b r1) (fun w hM=>KD x a_c0 c0 w (h_c0.sat hM)) {} (fun r1 hr1=>TL.next rfl (TC.cond r1 rfl Kr (fun h2=>?_) (fun h2=>?_))))))))))))
      · refine TC.sr (TL.r 2 [] [(4,.i (k:Int))] {} (TL.next rfl (TC.ret (TE.rb (TE.rt (TE.rt (TE.rb (TE.rt (TE.rt ?_)))))))))
        exact TE.ret [] (.i (k:Int)) {} (by unfold Jp;refine eS (fun z=>(.i z:Value)) ?_;subst hr1;exact X7 (hR.symm.trans (hI.trans (by rw [hd];exact Zi h2 (rfl)))) rfl)
      · exact TC.skip (TE.nb (TE.next (TC.region (TL.r 2 [] [(8,.i (w64 ((k:Int) + 1)))] {} (TL.done rfl (TE.rw 8 (.i (w64 ((k:Int) + 1))) (.i ((k + 1:Nat):Int)) Kr (ZD k (by omega)) (TE.again (x:=k) (k + 1) ⟨by omega,hI.trans (by subst hr1;rw [hd];exact Zb h2 (rfl))⟩ (mN hlt) Kr (sb 0))))))))
    · have hd:=XL h1
      refine TC.exit (TE.et (TE.et (TE.exit_same ?_)))
      exact TE.cut () (hI.trans (by rw [hd];exact rfl)) Kr (sb 0)
  · intro _ hJ
    exact TE.nr (TL.r 1 [] [(4,.i (-1))] {} (TL.next rfl (TC.ret (TE.ret [] (.i (-1)) {} (by unfold Jp;refine eS (fun z=>(.i z:Value)) ?_;exact XI (hR.symm.trans hJ) (rfl))))))
def QX (s:List Za) (c0:followed):Bool :=
  let r1:=Jp s c0
  decide (r1 ≥ 0)
set_option maxRecDepth 100000 in
theorem UY (A_s:Option Addr) (c_s:Nat) (s:List Za) (a_c0:Addr) (c0:followed) (w:World) (h_s:Rd w 20 A_s (s.map Za.c)) (hc_s:s.length ≤ c_s) (h_c0:Rd w 23 (some a_c0) [followed.c c0]):Calls Tryz.prog 117 #[.slice A_s s.length c_s,.func (.func 118) #[] #[.pointer (some a_c0)]] w (Ret w (.bool (QX s c0))):=by
  have s_s:=h_s.short;rw [List.length_map] at s_s
  exact Zk (vs:=[.slice A_s s.length c_s,.func (.func 118) #[] #[.pointer (some a_c0)]]) (w:=w) Tryz.func117 rfl Tryz.ntmps117 rfl (TC.sr (TL.r 1 [] [(4,.b false)] {} (TL.nr (TL.r 2 [] [(5,.slice A_s s.length c_s),(6,.func (.func 118) #[] #[.pointer (some a_c0)])] {} (TL.c 7 (Jp s c0) (fun r1=>.i r1) (fun w hM=>WO A_s c_s s a_c0 c0 w (h_s.sat hM) hc_s (h_c0.sat hM)) {} (fun r1 hr1=>TL.r 5 [] [(4,.b (decide (r1 ≥ 0)))] {} (TL.next rfl (TC.ret (TE.ret [] (.b (decide (r1 ≥ 0))) {} (by unfold QX;refine eS (fun z=>(.b z:Value)) ?_;subst hr1;exact rfl))))))))))
def Z2 (x:followed) (x_2:Int) (x_3:List Za):Bool :=
  cond (x.f.Track.Time == x_2) (
    let r1:=QX x_3 x
    !r1) (
    false)
set_option maxRecDepth 100000 in
theorem Jw (x:followed) (a_x_2:Addr) (x_2:Int) (a_x_3:Addr) (A_x_3:Option Addr) (c_x_3:Nat) (x_3:List Za) (w:World) (h_x_2:Rd w 1 (some a_x_2) [ic x_2]) (h_x_3:Rd w 1 (some a_x_3) [Sl.c (⟨A_x_3,c_x_3,x_3⟩:Sl Za)]) (hd_x_3:(⟨A_x_3,c_x_3,x_3⟩:Sl Za).rd w 20 Za.c):Calls Tryz.prog 116 #[followed.v x,.pointer (some a_x_2),.pointer (some a_x_3)] w (Ret w (.bool (Z2 x x_2 x_3))):=by
  refine Zk (vs:=[followed.v x,.pointer (some a_x_2),.pointer (some a_x_3)]) (w:=w) Tryz.func116 rfl Tryz.ntmps116 rfl (TC.sr (TL.nw 3 (fun b1=>.p0 b1) (fun b1=>Bk b1 (followed.c x) 122) (fun b1=>{}) (fun b1=>TL.r 2 [] [(4,.b false)] {} (TL.nr (TL.r 4 [0] [(8,.i x.f.Track.Time)] {} (TL.v (sV (Instr.loadAt 3 (.pointer (some a_x_2)))) 9 (.i x_2) (fun w hM=>Zs (off:=0) (.i x_2) (h_x_2.sat hM) (X9 _) Kr Kr) {} (TL.r 7 [] [(11,.b (x.f.Track.Time == x_2))] {} (TL.split 11 (x.f.Track.Time == x_2) Kr (fun h1=>?_) (fun h1=>?_)))))))))
  · exact TL.v (sV (Instr.loadAt 31 (.pointer (some a_x_3)))) 12 (.slice A_x_3 x_3.length c_x_3) (fun w hM=>Zs (off:=0) (.slice A_x_3 x_3.length c_x_3) (h_x_3.sat hM) (X9 _) Kr Kr) {} (TL.r 9 [] [(13,.func (.func 118) #[] #[.p0 b1])] {} (TL.c 14 (QX x_3 x) (fun r1=>.b r1) (fun w hM=>UY A_x_3 c_x_3 x_3 ⟨b1,0,none⟩ x w (hd_x_3.rd.sat hM) hd_x_3.le (Rd.lit hM 0 _ rfl Kr Kr Kr)) {} (fun r1 hr1=>TL.r 13 [] [(4,.b (!r1))] {} (TL.next rfl (TC.ret (TE.ret [] (.b (!r1)) {} (by unfold Z2;refine eS (fun z=>(.b z:Value)) ?_;subst hr1;exact Zi h1 (rfl))))))))
  · exact TL.r 13 [] [(4,.b false)] {} (TL.next rfl (TC.ret (TE.ret [] (.b false) {} (by unfold Z2;refine eS (fun z=>(.b z:Value)) ?_;exact Zb h1 (rfl)))))
def YK (c0:Int) (c1:List Za):List followed → Nat → ((Unit) ⊕ (Int))
  | [],_=>.inl ()
  | x :: xs,k=>let r1:=Z2 x c0 c1
    cond r1 (
      .inr (k:Int)) (
      YK c0 c1 xs (k + 1))
def XR (s:List followed) (c0:Int) (c1:List Za):Int :=
  Sum.elim (fun _ =>
    (-1)) (fun r=>r) (YK c0 c1 s 0)
set_option maxRecDepth 100000 in
theorem G9 (A_s:Option Addr) (c_s:Nat) (s:List followed) (a_c0:Addr) (c0:Int) (a_c1:Addr) (A_c1:Option Addr) (c_c1:Nat) (c1:List Za) (w:World) (h_s:Rd w 23 A_s (s.map followed.c)) (_hc_s:s.length ≤ c_s) (h_c0:Rd w 1 (some a_c0) [ic c0]) (h_c1:Rd w 1 (some a_c1) [Sl.c (⟨A_c1,c_c1,c1⟩:Sl Za)]) (hd_c1:(⟨A_c1,c_c1,c1⟩:Sl Za).rd w 20 Za.c):Calls Tryz.prog 159 #[.slice A_s s.length c_s,.func (.func 116) #[] #[.pointer (some a_c0),.pointer (some a_c1)]] w (Ret w (.int .i64 (XR s c0 c1))):=by
  have s_s:=h_s.short;rw [List.length_map] at s_s
  refine Zk (vs:=[.slice A_s s.length c_s,.func (.func 116) #[] #[.pointer (some a_c0),.pointer (some a_c1)]]) (w:=w) Tryz.func159 rfl Tryz.ntmps159 rfl (TC.sr (TL.r 1 [] [(4,.i 0)] {} (TL.ns (TC.sr (TL.r 3 [] [(7,.i (s.length:Int)),(8,.i 0)] {} (TL.next rfl ?_))))))
  obtain ⟨R1,hR⟩:∃ R,R=YK c0 c1 s 0:=⟨_,rfl⟩
  refine TC.cut (S:=Unit) (fun (_:Unit)=>[]) (fun (_:Unit)=>[]) (fun (_:Unit)=>R1=.inl ()) ?_ ?_
  · refine TC.block (TC.lw (X:=Nat) (fun k=>[(0,.slice A_s s.length c_s),(1,.func (.func 116) #[] #[.pointer (some a_c0),.pointer (some a_c1)]),(7,.i (s.length:Int)),(8,.i (k:Int))]) (fun k=>[]) (fun k=>s.length - k) (fun k=>k ≤ s.length ∧ R1=YK c0 c1 (s.drop k) k) ?_ 0 ⟨Nat.zero_le _,hR⟩ Kr (sb 0))
    rintro k ⟨hk,hI⟩
    refine TC.sr (TL.r 1 [] [(9,.b (decide ((k:Int) < (s.length:Int))))] {} (TL.ns (TC.cond (decide ((k:Int) < (s.length:Int))) rfl Kr (fun h1=>?_) (fun h1=>?_))))
    · have hlt:=ltN h1
      obtain ⟨x,hx⟩:=elN hlt
      have hd:=drop_at hx
      refine TC.sn (TC.seq (TC.block (TC.sr (TL.r 2 [] [(5,.i (k:Int))] {} (TL.nr (TL.r 3 [] [(11,.func (.func 116) #[] #[.pointer (some a_c0),.pointer (some a_c1)]),(12,.slice A_s s.length c_s),(13,.i (k:Int))] {} (TL.v (sV (Instr.indexAt 116 (.slice A_s s.length c_s) (.i (k:Int)))) 14 (.pointer (some (Ix A_s (k * 23)))) (fun w hM=>Zr (h_s.sat hM) (by simp) Kr sd sd) {} (TL.v (sV (Instr.loadAt 122 (.pointer (some (Ix A_s (k * 23)))))) 15 (followed.v x) (fun w hM=>Z6 (n:=23) (off:=0) (i:=k) (followed.v x) (h_s.sat hM) (ZA hx) Kr Kr Kr) {} (TL.c 16 (Z2 x c0 c1) (fun r1=>.b r1) (fun w hM=>Jw x a_c0 c0 a_c1 A_c1 c_c1 c1 w (h_c0.sat hM) (h_c1.sat hM) (hd_c1.sat hM)) {} (fun r1 hr1=>TL.next rfl (TC.cond r1 rfl Kr (fun h2=>?_) (fun h2=>?_))))))))))))
      · refine TC.sr (TL.r 2 [] [(4,.i (k:Int))] {} (TL.next rfl (TC.ret (TE.rb (TE.rt (TE.rt (TE.rb (TE.rt (TE.rt ?_)))))))))
        exact TE.ret [] (.i (k:Int)) {} (by unfold XR;refine eS (fun z=>(.i z:Value)) ?_;subst hr1;exact X7 (hR.symm.trans (hI.trans (by rw [hd];exact Zi h2 (rfl)))) rfl)
      · exact TC.skip (TE.nb (TE.next (TC.region (TL.r 2 [] [(8,.i (w64 ((k:Int) + 1)))] {} (TL.done rfl (TE.rw 8 (.i (w64 ((k:Int) + 1))) (.i ((k + 1:Nat):Int)) Kr (ZD k (by omega)) (TE.again (x:=k) (k + 1) ⟨by omega,hI.trans (by subst hr1;rw [hd];exact Zb h2 (rfl))⟩ (mN hlt) Kr (sb 0))))))))
    · have hd:=XL h1
      refine TC.exit (TE.et (TE.et (TE.exit_same ?_)))
      exact TE.cut () (hI.trans (by rw [hd];exact rfl)) Kr (sb 0)
  · intro _ hJ
    exact TE.nr (TL.r 1 [] [(4,.i (-1))] {} (TL.next rfl (TC.ret (TE.ret [] (.i (-1)) {} (by unfold XR;refine eS (fun z=>(.i z:Value)) ?_;exact XI (hR.symm.trans hJ) (rfl))))))
def Xx (c0:Int) (c1:List Za) (r1:Int):Nat → Nat → Int → (List followed) → (Int × List followed)
  | 0,_,i,s_2=>(i,s_2)
  | m + 1,k,i,s_2=>let r2:=Z2 (s_2[((r1 + 1) + (k:Int)).toNat]?.getD followed.zero) c0 c1
    cond (!r2) (
      Xx c0 c1 r1 m (k + 1) (w64 (i + 1)) (s_2.set i.toNat (s_2[((r1 + 1) + (k:Int)).toNat]?.getD followed.zero))) (
      Xx c0 c1 r1 m (k + 1) i s_2)
def Xd (s:List followed) (c0:Int) (c1:List Za):(List followed) :=
  let r1:=XR s c0 c1
  cond (r1 == (-1)) (
    s) (
    Y3 (Xx c0 c1 r1 (((s.length:Int) - (r1 + 1)).toNat) 0 r1 s) (fun (i_2,s_3) =>
      ((s_3.take i_2.toNat ++ List.replicate (s_3.length - i_2.toNat) followed.zero).take i_2.toNat)))
theorem Ld (c0:Int) (c1:List Za):∀ (l:List followed) (k:Nat),YK c0 c1 l k=.inl () ∨ ∃ j:Nat,YK c0 c1 l k=.inr (j:Int) ∧ j < k + l.length
  | [],k=>.inl rfl
  | x :: xs,k=>by
    unfold YK
    simp only
    cases Z2 x c0 c1 with
    | true=>exact .inr ⟨k,rfl,by simp⟩
    | false =>
      rcases Ld c0 c1 xs (k + 1) with h | ⟨j,h,hj⟩
      · exact .inl h
      · exact .inr ⟨j,h,by simp only [List.length_cons];omega⟩
theorem YC {l:List followed} {c0:Int} {c1:List Za} {r:Int} (h:XR l c0 c1=r) (h1:(r == (-1))=false):0 ≤ r ∧ r < (l.length:Int):=by
  subst h
  unfold XR at *
  rcases Ld c0 c1 l 0 with h2 | ⟨j,h2,hj⟩
  · rw [h2] at h1;cases h1
  · rw [h2];show 0 ≤ (j:Int) ∧ (j:Int) < _;omega
set_option maxRecDepth 100000 in
theorem UZ (A_s:Option Addr) (c_s:Nat) (s:List followed) (b_c0:Nat) (c0:Int) (b_c1:Nat) (A_c1:Option Addr) (c_c1:Nat) (c1:List Za) (w:World) (hM:Sat ⟨w,Xf [.inr (Own A_s c_s 122 23 (s.map followed.c)),.inl (b_c0,.cells #[.int .i64 c0] 3 (0,0)),.inl (b_c1,.cells #[.slice A_c1 c1.length c_c1] 31 (0,0)),.inr (Own A_c1 c_c1 44 20 (c1.map Za.c))]⟩ [.inr (Own A_s c_s 122 23 (s.map followed.c)),.inl (b_c0,.cells #[.int .i64 c0] 3 (0,0)),.inl (b_c1,.cells #[.slice A_c1 c1.length c_c1] 31 (0,0)),.inr (Own A_c1 c_c1 44 20 (c1.map Za.c))] w):Calls Tryz.prog 115 #[.slice A_s s.length c_s,.func (.func 116) #[] #[.pointer (some ⟨b_c0,0,none⟩),.pointer (some ⟨b_c1,0,none⟩)]] w (QK (Γ:=Unit) ⟨w,Xf [.inr (Own A_s c_s 122 23 (s.map followed.c)),.inl (b_c0,.cells #[.int .i64 c0] 3 (0,0)),.inl (b_c1,.cells #[.slice A_c1 c1.length c_c1] 31 (0,0)),.inr (Own A_c1 c_c1 44 20 (c1.map Za.c))]⟩ (fun _=>.slice A_s ((Xd s c0 c1).length) c_s) (fun _=>[.inr (Own A_s c_s 122 23 ((Xd s c0 c1).map followed.c)),.inl (b_c0,.cells #[.int .i64 c0] 3 (0,0)),.inl (b_c1,.cells #[.slice A_c1 c1.length c_c1] 31 (0,0)),.inr (Own A_c1 c_c1 44 20 (c1.map Za.c))])):=by
  refine Yu (w0:=⟨w,Xf [Ow A_s c_s 122 23 (s.map followed.c),Bk b_c0 #[.i c0] 3,Bk b_c1 #[.slice A_c1 c1.length c_c1] 31,Ow A_c1 c_c1 44 20 (c1.map Za.c)]⟩) (vs:=[.slice A_s s.length c_s,.func (.func 116) #[] #[.p0 b_c0,.p0 b_c1]]) hM Tryz.func115 rfl Tryz.ntmps115 rfl (TC.know (fun w hM=>hM.short_at 0 rfl) (fun s_s=>TC.know (fun w hM=>hM.short_at 3 rfl) (fun s_c1=>TC.sr (TL.r 1 [] [(4,.slice none 0 0)] {} (TL.nr (TL.r 2 [] [(8,.slice A_s s.length c_s),(9,.func (.func 116) #[] #[.p0 b_c0,.p0 b_c1])] {} (TL.c 10 (XR s c0 c1) (fun r1=>.i r1) (fun w hM=>G9 A_s c_s s ⟨b_c0,0,none⟩ c0 ⟨b_c1,0,none⟩ A_c1 c_c1 c1 w (hM.rd_at 0 rfl) (hM.le_at 0 rfl) (Rd.lit hM 1 _ rfl Kr Kr Kr) (Rd.lit hM 2 _ rfl Kr Kr Kr) ⟨(hM.rd_at 3 rfl),(hM.le_at 3 rfl)⟩) {} (fun r1 hr1=>TL.r 4 [] [(5,.i r1)] {} (TL.ns (TC.sr (TL.r 2 [] [(12,.b (r1 == (-1)))] {} (TL.next rfl (TC.cond (r1 == (-1)) rfl Kr (fun h1=>?_) (fun h1=>?_))))))))))))))
  · refine TC.sr (TL.r 2 [] [(4,.slice A_s s.length c_s)] {} (TL.next rfl (TC.ret (TE.rt ?_))))
    have e:Xd s c0 c1=s:=by subst hr1;unfold Xd;exact Zi h1 (rfl)
    rw [e]
    exact TE.retM (.inl rfl) () [] (.slice A_s s.length c_s) {} rfl (fun _ hM=>hM.sub (sb 15))
  · have q1_0:=(ZN h1)
    refine TC.sn (TC.seq (TC.sr (TL.r 3 [] [(6,.i (w64 (r1 + 1)))] {} (TL.next rfl ?_))))
    obtain ⟨R1,hR⟩:∃ R,R=Xx c0 c1 r1 (((s.length:Int) - (r1 + 1)).toNat) 0 r1 s:=⟨_,rfl⟩
    refine TC.cut (S:=Int × (List followed)) (fun (i_2,s_3)=>[(0,.slice A_s s_3.length c_s),(5,.i i_2)]) (fun (i_2,s_3)=>[Ow A_s c_s 122 23 (s_3.map followed.c),Bk b_c0 #[.i c0] 3,Bk b_c1 #[.slice A_c1 c1.length c_c1] 31,Ow A_c1 c_c1 44 20 (c1.map Za.c)]) (fun (i_2,s_3)=>R1=(i_2,s_3) ∧ s_3.length=s.length ∧ (0 ≤ i_2 ∧ i_2 ≤ (s.length:Int))) ?_ ?_
    · refine TC.block (TC.rw 6 (.i (w64 (r1 + 1))) (.i ((r1 + 1) + ((0:Nat):Int))) Kr (int_eq (by (try have kx_:=YC hr1 h1);have kx_:=YC hr1 h1;first | omega | (rw [Zm (by omega)];omega) | (simp only [Y4];omega))) (TC.lw (X:=Nat × Int × (List followed)) (fun (k,i,s_2)=>[(0,.slice A_s s_2.length c_s),(1,.func (.func 116) #[] #[.p0 b_c0,.p0 b_c1]),(5,.i i),(6,.i ((r1 + 1) + (k:Int)))]) (fun (k,i,s_2)=>[Ow A_s c_s 122 23 (s_2.map followed.c),Bk b_c0 #[.i c0] 3,Bk b_c1 #[.slice A_c1 c1.length c_c1] 31,Ow A_c1 c_c1 44 20 (c1.map Za.c)]) (fun (k,i,s_2)=>(((s.length:Int) - (r1 + 1)).toNat) - k) (fun (k,i,s_2)=>k ≤ (((s.length:Int) - (r1 + 1)).toNat) ∧ R1=Xx c0 c1 r1 ((((s.length:Int) - (r1 + 1)).toNat) - k) k i s_2 ∧ s_2.length=s.length ∧ (0 ≤ i ∧ i ≤ r1 + (k:Int))) ?_ (0,r1,s) ⟨Nat.zero_le _,hR,sz,(by (try have kx_:=YC hr1 h1);exact sz)⟩ Kr (sb 15)))
      rintro ⟨k,i,s_2⟩ ⟨hk,hI,hl_s_2,hl_iv0⟩
      refine TC.seq (TC.sr (TL.r 4 [] [(19,.b (decide (((r1 + 1) + (k:Int)) < (s_2.length:Int))))] {} (TL.next rfl (TC.cond (decide (((r1 + 1) + (k:Int)) < (s_2.length:Int))) rfl Kr (fun h2=>?_) (fun h2=>?_)))))
      · have hlt:k < (((s.length:Int) - (r1 + 1)).toNat):=by (try have kx_:=YC hr1 h1);have p0_:=(Z4 h2);have kx_:=YC hr1 h1;first | omega | (simp only [Y4] at *;omega)
        have hd:(((s.length:Int) - (r1 + 1)).toNat) - k=((((s.length:Int) - (r1 + 1)).toNat) - (k + 1)) + 1:=by omega
        have q2_0:=(Z4 h2)
        refine TC.sn (TC.seq (TC.block (TC.sr (TL.r 2 [] [(22,.slice A_s s_2.length c_s),(23,.i ((r1 + 1) + (k:Int)))] {} (TL.v (sV (Instr.indexAt 116 (.slice A_s s_2.length c_s) (.i ((r1 + 1) + (k:Int))))) 24 (.pointer (some ((A_s.getD Yb).add (((r1 + 1) + (k:Int)).toNat * 23)))) (fun w hM=>Zr (hM.rd_at 0 rfl) (by simp) Kr (by (try have kx_:=YC hr1 h1);exact sd) (by (try have kx_:=YC hr1 h1);exact sd)) {} (TL.v (sV (Instr.loadAt 122 (.pointer (some ((A_s.getD Yb).add (((r1 + 1) + (k:Int)).toNat * 23)))))) 25 (followed.v (s_2[((r1 + 1) + (k:Int)).toNat]?.getD followed.zero)) (fun w hM=>Z6 (n:=23) (off:=0) (i:=((r1 + 1) + (k:Int)).toNat) (followed.v (s_2[((r1 + 1) + (k:Int)).toNat]?.getD followed.zero)) (hM.rd_at 0 rfl) (ZA (getD_at _ _ followed.zero (by (try have kx_:=YC hr1 h1);exact sd))) Kr Kr Kr) {} (TL.nw 7 (fun b1=>.p0 b1) (fun b1=>Bk b1 (followed.c followed.zero) 122) (fun b1=>{}) (fun b1=>TL.s 0 (Bk b1 (followed.c (s_2[((r1 + 1) + (k:Int)).toNat]?.getD followed.zero)) 122) (fun _=>{}) (TL.nr (TL.r 2 [0] [(26,.func (.func 116) #[] #[.p0 b_c0,.p0 b_c1]),(27,followed.v (s_2[((r1 + 1) + (k:Int)).toNat]?.getD followed.zero))] {} (TL.c 28 (Z2 (s_2[((r1 + 1) + (k:Int)).toNat]?.getD followed.zero) c0 c1) (fun r2=>.b r2) (fun w hM=>Jw (s_2[((r1 + 1) + (k:Int)).toNat]?.getD followed.zero) ⟨b_c0,0,none⟩ c0 ⟨b_c1,0,none⟩ A_c1 c_c1 c1 w (Rd.lit hM 2 _ rfl Kr Kr Kr) (Rd.lit hM 3 _ rfl Kr Kr Kr) ⟨(hM.rd_at 4 rfl),(hM.le_at 4 rfl)⟩) {} (fun r2 hr2=>TL.r 4 [] [(29,.b (!r2))] {} (TL.next rfl (TC.cond (!r2) rfl Kr (fun h3=>?_) (fun h3=>?_)))))))))))))))
        · exact TC.sr (TL.r 3 [0] [(30,.slice A_s s_2.length c_s),(31,.i i),(32,followed.v (s_2[((r1 + 1) + (k:Int)).toNat]?.getD followed.zero))] {} (TL.v (sV (Instr.indexAt 116 (.slice A_s s_2.length c_s) (.i i))) 33 (.pointer (some (Ix A_s (i.toNat * 23)))) (fun w hM=>Zr (hM.rd_at 1 rfl) (by simp) Kr (by (try have kx_:=YC hr1 h1);exact sd) (by (try have kx_:=YC hr1 h1);exact sd)) {} (TL.ks (Γ:=Unit) (sU (Instr.storeAt 122 (.pointer (some ((Ix A_s (i.toNat * 23)).add 0))) (followed.v (s_2[((r1 + 1) + (k:Int)).toNat]?.getD followed.zero)))) 1 (Ow A_s c_s 122 23 ((s_2.set i.toNat (s_2[((r1 + 1) + (k:Int)).toNat]?.getD followed.zero)).map followed.c)) (YB (n:=23) (off:=0) (followed.v (s_2[((r1 + 1) + (k:Int)).toNat]?.getD followed.zero)) 1 ((s_2.set i.toNat (s_2[((r1 + 1) + (k:Int)).toNat]?.getD followed.zero)).map followed.c) rfl (ZA (getD_at _ _ followed.zero (by (try have kx_:=YC hr1 h1);exact sd))) Kr Kr Kr Kr (Xj Kr)) Kr (TL.rw 0 (.slice A_s s_2.length c_s) (.slice A_s ((s_2.set i.toNat (s_2[((r1 + 1) + (k:Int)).toNat]?.getD followed.zero)).length) c_s) Kr (by simp only [List.length_set]) (TL.next rfl (TC.region (TL.r 3 [] [(5,.i (w64 (i + 1)))] {} (TL.done rfl (TE.nb (TE.next (TC.region (TL.r 3 [] [(6,.i (w64 (((r1 + 1) + (k:Int)) + 1)))] {} (TL.done rfl (TE.rw 6 (.i (w64 (((r1 + 1) + (k:Int)) + 1))) (.i ((r1 + 1) + ((k + 1:Nat):Int))) Kr (int_eq (by (try have kx_:=YC hr1 h1);have kx_:=YC hr1 h1;first | omega | (rw [Zm (by omega)];omega) | (simp only [Y4] at *;omega))) (TE.again (x:=(k,i,s_2)) (k + 1,w64 (i + 1),(s_2.set i.toNat (s_2[((r1 + 1) + (k:Int)).toNat]?.getD followed.zero))) ⟨by omega,hI.trans (by subst hr1 hr2;rw [hd];exact Zi h3 (rfl)),(by (try have kx_:=YC hr1 h1);exact sl),(by (try have kx_:=YC hr1 h1);exact sl)⟩ (mN hlt) Kr (sb 30))))))))))))))))
        · exact TC.skip (TE.nb (TE.next (TC.region (TL.r 3 [] [(6,.i (w64 (((r1 + 1) + (k:Int)) + 1)))] {} (TL.done rfl (TE.rw 6 (.i (w64 (((r1 + 1) + (k:Int)) + 1))) (.i ((r1 + 1) + ((k + 1:Nat):Int))) Kr (int_eq (by (try have kx_:=YC hr1 h1);have kx_:=YC hr1 h1;first | omega | (rw [Zm (by omega)];omega) | (simp only [Y4] at *;omega))) (TE.again (x:=(k,i,s_2)) (k + 1,i,s_2) ⟨by omega,hI.trans (by subst hr1 hr2;rw [hd];exact Zb h3 (rfl)),(by (try have kx_:=YC hr1 h1);exact sl),(by (try have kx_:=YC hr1 h1);exact sl)⟩ (mN hlt) Kr (sb 30))))))))
      · have hd:(((s.length:Int) - (r1 + 1)).toNat) - k=0:=by (try have kx_:=YC hr1 h1);have p0_:=(Zo h2);have kx_:=YC hr1 h1;first | omega | (simp only [Y4] at *;omega)
        refine TC.exit (TE.et (TE.et (TE.exit_same ?_)))
        exact TE.cut (i,s_2) (⟨hI.trans (by subst hr1;rw [hd];exact rfl),(by (try have kx_:=YC hr1 h1);exact sl),(by (try have kx_:=YC hr1 h1);exact sl)⟩) Kr (sb 15)
    · rintro ⟨i_2,s_3⟩ ⟨hJ,hl_s_3,hl_ov0_0⟩
      refine TE.nr (TL.r 2 [] [(36,.slice A_s s_3.length c_s),(37,.i i_2)] {} ?_)
      obtain ⟨A1,hA1⟩:∃ A0_,A0_=(if c_s=i_2.toNat then A_s else A_s.map (fun a=>a.add (i_2.toNat * 23))):=⟨_,rfl⟩
      refine TL.v (sV (Instr.sliceAt 116 (.slice A_s s_3.length c_s) (some (.i i_2)) none none)) 38 (.slice A1 ((s_3.drop i_2.toNat).length) (c_s - i_2.toNat)) (fun w hM=>(JI i_2.toNat s_3.length Kr (.inr ⟨_,_,rfl,(by (try have kx_:=YC hr1 h1);exact sd),rfl⟩) (.inl ⟨rfl,rfl⟩) (by (try have kx_:=YC hr1 h1);exact sd) (Nat.le_trans (Nat.le_refl _) (hM.le_at 0 rfl))).trans (by rw [hA1];(try have kx_:=YC hr1 h1);congr 3;simp only [List.length_drop])) {} ?_
      have hlclr:(s_3.take i_2.toNat ++ List.replicate (s_3.length - i_2.toNat) followed.zero).length=s_3.length:=by have k_:i_2.toNat ≤ s_3.length:=(by (try have kx_:=YC hr1 h1);exact sd);simp only [List.length_append,List.length_take,List.length_replicate];omega
      refine TL.opM (Γ:=Unit) (sV (Builtin.clear_ #[116] 0 #[.slice A1 ((s_3.drop i_2.toNat).length) (c_s - i_2.toNat)])) none (fun _=>.tuple #[]) (fun _=>[Ow A_s c_s 122 23 ((s_3.take i_2.toNat ++ List.replicate (s_3.length - i_2.toNat) followed.zero).map followed.c),Bk b_c0 #[.i c0] 3,Bk b_c1 #[.slice A_c1 c1.length c_c1] 31,Ow A_c1 c_c1 44 20 (c1.map Za.c)]) (fun _=>[(0,.slice A_s s_3.length c_s),(5,.i i_2)]) (by exact UX (c:=followed.c) (bytes:=184) (sz:=23) followed.zero 0 i_2.toNat ((c_s - i_2.toNat)) ((s_3.drop i_2.toNat).length) 0 Kr Kr followed.one rfl hA1 (by simp only [List.length_drop]) (by (try have kx_:=YC hr1 h1);exact sd)) Kr (fun _=>Kr) (fun _=>TL.rw 0 (.slice A_s s_3.length c_s) (.slice A_s ((s_3.take i_2.toNat ++ List.replicate (s_3.length - i_2.toNat) followed.zero).length) c_s) Kr (by rw [hlclr]) (TL.nr (TL.r 2 [] [(39,.slice A_s ((s_3.take i_2.toNat ++ List.replicate (s_3.length - i_2.toNat) followed.zero).length) c_s),(40,.i i_2)] {} ?_)))
      obtain ⟨A1_2,hA1_2⟩:∃ A0_,A0_=(if c_s=0 then A_s else A_s.map (fun a=>a.add (0 * 23))):=⟨_,rfl⟩
      refine TL.v (sV (Instr.sliceAt 116 (.slice A_s ((s_3.take i_2.toNat ++ List.replicate (s_3.length - i_2.toNat) followed.zero).length) c_s) none (some (.i i_2)) none)) 41 (.slice A1_2 (((s_3.take i_2.toNat ++ List.replicate (s_3.length - i_2.toNat) followed.zero).take i_2.toNat).length) (c_s - 0)) (fun w hM=>(JI 0 i_2.toNat Kr (.inl ⟨rfl,rfl⟩) (.inr ⟨_,_,rfl,(by (try have kx_:=YC hr1 h1);exact sd),rfl⟩) (by (try have kx_:=YC hr1 h1);exact sd) (Nat.le_trans (by (try have kx_:=YC hr1 h1);exact sd) (hM.le_at 0 rfl))).trans (by rw [hA1_2];(try have kx_:=YC hr1 h1);congr 3;first | (simp only [List.length_take] <;> omega) | (simp only [List.length_take] at * <;> omega))) {} (TL.r 4 [] [(4,.slice A1_2 (((s_3.take i_2.toNat ++ List.replicate (s_3.length - i_2.toNat) followed.zero).take i_2.toNat).length) (c_s - 0))] {} (TL.next rfl (TC.ret (TE.conv [Ow A_s c_s 122 23 (((s_3.take i_2.toNat ++ List.replicate (s_3.length - i_2.toNat) followed.zero).take i_2.toNat).map followed.c),Bk b_c0 #[.i c0] 3,Bk b_c1 #[.slice A_c1 c1.length c_c1] 31,Ow A_c1 c_c1 44 20 (c1.map Za.c)] (fun _ hM=>by have h_:=hM.takerow i_2.toNat 0 rfl (by simp only [List.length_map];exact (by (try have kx_:=YC hr1 h1);exact sg));rw [← List.map_take] at h_;exact h_) ?_))))
      have e:Xd s c0 c1=((s_3.take i_2.toNat ++ List.replicate (s_3.length - i_2.toNat) followed.zero).take i_2.toNat):=by subst hr1;unfold Xd;exact Zb h1 (Ye (hR.symm.trans hJ) (rfl))
      rw [e]
      exact TE.retM (.inl rfl) () [] (.slice A1_2 (((s_3.take i_2.toNat ++ List.replicate (s_3.length - i_2.toNat) followed.zero).take i_2.toNat).length) (c_s - 0)) {} (by rw [hA1_2,OA];rfl) (fun _ hM=>hM.sub (sb 15))
def Yv (time:Int):List followed → Nat → (List Za) → (List Za)
  | [],_,xs_=>xs_
  | x :: xs,k,xs_=>cond (x.f.Track.Time == time) (
      Yv time xs (k + 1) (xs_ ++ ([x.f]))) (
      Yv time xs (k + 1) xs_)
def Z8 (t:Ze) (time:Int):Ze :=
  Y3 (Yv time t.all 0 ([]:List Za)) (fun xs__2 =>
    let r1:=Xc xs__2 500
    let r2:=Xd t.all time r1.1
    (⟨t.rules,r2,t.next,t.last⟩:Ze))
set_option maxRecDepth 100000 in
theorem V2 (b_t:Nat) (t:Ze) (A_t_all:Option Addr) (c_t_all:Nat) (time:Int) (w:World) (hM:Sat ⟨w,Xf [.inl (b_t,.cells (Ze.k t A_t_all c_t_all) 118 (0,0)),.inr (Own A_t_all c_t_all 122 23 (t.all.map followed.c))]⟩ [.inl (b_t,.cells (Ze.k t A_t_all c_t_all) 118 (0,0)),.inr (Own A_t_all c_t_all 122 23 (t.all.map followed.c))] w) (hn:t.all.length ≤ 64):Calls Tryz.prog 58 #[.pointer (some ⟨b_t,0,none⟩),.int .i64 time] w (QK (Γ:=(Option Addr × Nat)) ⟨w,Xf [.inl (b_t,.cells (Ze.k t A_t_all c_t_all) 118 (0,0)),.inr (Own A_t_all c_t_all 122 23 (t.all.map followed.c))]⟩ (fun _=>.tuple #[]) (fun g=>[.inl (b_t,.cells (Ze.k (⟨⟨(Z8 t time).rules.Need,(Z8 t time).rules.Of,(Z8 t time).rules.Misses,(Z8 t time).rules.Accel,(Z8 t time).rules.Place,(Z8 t time).rules.Speed⟩,(Z8 t time).all,(Z8 t time).next,(Z8 t time).last⟩:Ze) g.1 g.2) 118 (0,0)),.inr (Own g.1 g.2 122 23 (((Z8 t time).all).map followed.c))])):=by
  refine Yu (w0:=⟨w,Xf [Bk b_t (Ze.k t A_t_all c_t_all) 118,Ow A_t_all c_t_all 122 23 (t.all.map followed.c)]⟩) (vs:=[.p0 b_t,.i time]) hM Tryz.func58 rfl Tryz.ntmps58 rfl (TC.know (fun w hM=>hM.short_at 1 rfl) (fun s_t_all=>TC.sr (TL.nw 3 (fun b1=>.p0 b1) (fun b1=>Bk b1 #[.i time] 3) (fun b1=>{}) (fun b1=>TL.nr (TL.nw 4 (fun b2=>.p0 b2) (fun b2=>Bk b2 #[.slice none 0 0] 31) (fun b2=>{}) (fun b2=>TL.ns (TC.sr (TL.r 6 [2] [(10,.slice A_t_all t.all.length c_t_all),(11,.i (t.all.length:Int)),(12,.i 0)] {} (TL.next rfl (TC.conv [Ow none 0 44 20 (([]:List Za).map Za.c),Bk b2 #[.slice none 0 0] 31,Bk b1 #[.i time] 3,Bk b_t (Ze.k t A_t_all c_t_all) 118,Ow A_t_all c_t_all 122 23 (t.all.map followed.c)] (fun _ hM=>hM.emptyrow none 44 20) (TC.conv [Ow none 0 44 20 (([]:List Za).map Za.c),Bk b2 #[.slice none (([]:List Za).length) 0] 31,Bk b1 #[.i time] 3,Bk b_t (Ze.k t A_t_all c_t_all) 118,Ow A_t_all c_t_all 122 23 (t.all.map followed.c)] (fun _ hM=>hM) ?_)))))))))))
  obtain ⟨R2,hR⟩:∃ R,R=Yv time t.all 0 ([]:List Za):=⟨_,rfl⟩
  refine TC.cut (S:=(List Za) × (Option Addr) × Nat) (fun (xs__2,A_xs__2,c_xs__2)=>[(0,.p0 b_t),(3,.p0 b1),(4,.p0 b2)]) (fun (xs__2,A_xs__2,c_xs__2)=>[Ow A_xs__2 c_xs__2 44 20 (xs__2.map Za.c),Bk b2 #[.slice A_xs__2 xs__2.length c_xs__2] 31,Bk b1 #[.i time] 3,Bk b_t (Ze.k t A_t_all c_t_all) 118,Ow A_t_all c_t_all 122 23 (t.all.map followed.c)]) (fun (xs__2,A_xs__2,c_xs__2)=>R2=xs__2 ∧ xs__2.length ≤ t.all.length) ?_ ?_
  · refine TC.block (TC.lw (X:=Nat × (List Za) × (Option Addr) × Nat) (fun (k,xs_,A_xs_,c_xs_)=>[(0,.p0 b_t),(3,.p0 b1),(4,.p0 b2),(10,.slice A_t_all t.all.length c_t_all),(11,.i (t.all.length:Int)),(12,.i (k:Int))]) (fun (k,xs_,A_xs_,c_xs_)=>[Ow A_xs_ c_xs_ 44 20 (xs_.map Za.c),Bk b2 #[.slice A_xs_ xs_.length c_xs_] 31,Bk b1 #[.i time] 3,Bk b_t (Ze.k t A_t_all c_t_all) 118,Ow A_t_all c_t_all 122 23 (t.all.map followed.c)]) (fun (k,xs_,A_xs_,c_xs_)=>t.all.length - k) (fun (k,xs_,A_xs_,c_xs_)=>k ≤ t.all.length ∧ R2=Yv time (t.all.drop k) k xs_ ∧ xs_.length ≤ k) ?_ (0,([]:List Za),none,0) ⟨Nat.zero_le _,hR,sz⟩ Kr (sb 31))
    rintro ⟨k,xs_,A_xs_,c_xs_⟩ ⟨hk,hI,hl_xs_⟩
    refine TC.sr (TL.r 1 [] [(13,.b (decide ((k:Int) < (t.all.length:Int))))] {} (TL.ns (TC.cond (decide ((k:Int) < (t.all.length:Int))) rfl Kr (fun h1=>?_) (fun h1=>?_))))
    · have hlt:=ltN h1
      obtain ⟨x,hx⟩:=elN hlt
      have hd:=drop_at hx
      refine TC.sn (TC.seq (TC.block (TC.sr (TL.v (sV (Instr.indexAt 116 (.slice A_t_all t.all.length c_t_all) (.i (k:Int)))) 14 (.pointer (some (Ix A_t_all (k * 23)))) (fun w hM=>Zr (hM.rd_at 4 rfl) (by simp) Kr sd sd) {} (TL.v (sV (Instr.loadAt 122 (.pointer (some (Ix A_t_all (k * 23)))))) 15 (followed.v x) (fun w hM=>Z6 (n:=23) (off:=0) (i:=k) (followed.v x) (hM.rd_at 4 rfl) (ZA hx) Kr Kr Kr) {} (TL.nw 6 (fun b3=>.p0 b3) (fun b3=>Bk b3 (followed.c followed.zero) 122) (fun b3=>{}) (fun b3=>TL.s 0 (Bk b3 (followed.c x) 122) (fun _=>{}) (TL.nr (TL.r 6 [0,3] [(21,.b (x.f.Track.Time == time))] {} (TL.next rfl (TC.cond (x.f.Track.Time == time) rfl Kr (fun h2=>?_) (fun h2=>?_))))))))))))
      · have q2_0:=(Yx h2)
        refine TC.region (TL.r 3 [2,0] [(22,.slice A_xs_ xs_.length c_xs_),(24,Za.v x.f)] {} (TL.nw 25 (fun b4=>.slice (Pa b4) 1 1) (fun b4=>Bk b4 (Za.c x.f) 44) (fun b4=>{}) (fun b4=>TL.os (Γ:=AN) (sV (Builtin.append_ #[31,31] 31 #[.slice A_xs_ xs_.length c_xs_,.slice (Pa b4) 1 1])) 26 (fun g=>.slice g.1 (xs_ ++ ([x.f])).length g.2) 2 (fun g=>Ow g.1 g.2 44 20 ((xs_ ++ ([x.f])).map Za.c)) (Qq (bytes:=160) 31 2 ([x.f]) Kr rfl rfl Za.one rfl (fun w hM=>(Rd.lit hM 0 _ rfl Kr Kr Kr)) rfl sa) {} ?_)))
        rintro ⟨A,c⟩
        exact TL.s 3 (Bk b2 #[.slice A ((xs_ ++ ([x.f])).length) c] 31) (fun _=>{}) (TL.done rfl (TE.nb (TE.next (TC.region (TL.r 2 [] [(12,.i (w64 ((k:Int) + 1)))] {} (TL.done rfl (TE.rw 12 (.i (w64 ((k:Int) + 1))) (.i ((k + 1:Nat):Int)) Kr (ZD k (by omega)) (TE.again (x:=(k,xs_,A_xs_,c_xs_)) (k + 1,(xs_ ++ ([x.f])),A,c) ⟨by omega,hI.trans (by rw [hd];exact Zi h2 (rfl)),sl⟩ (mN hlt) Kr (sb 124)))))))))
      · have q2_0:=(ZN h2)
        exact TC.skip (TE.nb (TE.next (TC.region (TL.r 2 [] [(12,.i (w64 ((k:Int) + 1)))] {} (TL.done rfl (TE.rw 12 (.i (w64 ((k:Int) + 1))) (.i ((k + 1:Nat):Int)) Kr (ZD k (by omega)) (TE.again (x:=(k,xs_,A_xs_,c_xs_)) (k + 1,xs_,A_xs_,c_xs_) ⟨by omega,hI.trans (by rw [hd];exact Zb h2 (rfl)),sl⟩ (mN hlt) Kr (sb 62))))))))
    · have hd:=XL h1
      refine TC.exit (TE.et (TE.et (TE.exit_same ?_)))
      exact TE.cut (xs_,A_xs_,c_xs_) (⟨hI.trans (by rw [hd];exact rfl),sl⟩) Kr (sb 31)
  · rintro ⟨xs__2,A_xs__2,c_xs__2⟩ ⟨hJ,hl_xs__2⟩
    refine TE.nr (TL.r 1 [1] [(29,.slice A_xs__2 xs__2.length c_xs__2)] {} (TL.cn (Γ:=AN) 30 (Xc xs__2 500) (fun r1 g=>.tuple #[.slice g.1 r1.1.length g.2,.i r1.2]) (fun r1 g=>[Ow g.1 g.2 44 20 (r1.1.map Za.c)]) (fun w hM=>HM A_xs__2 c_xs__2 xs__2 500 w (hM.rd_at 0 rfl) (hM.le_at 0 rfl)) {} (fun r1 hr1=>?_)))
    rintro ⟨A_2,c_2⟩
    refine TL.know (fun w hM=>hM.short_at 0 rfl) (fun s_r1_0=>TL.r 5 [] [(31,.slice A_2 r1.1.length c_2)] {} (TL.s 2 (Bk b2 #[.slice A_2 r1.1.length c_2] 31) (fun _=>{}) (TL.next rfl (TC.region (TL.r 6 [4] [(33,.p0 b_t),(37,.slice A_t_all t.all.length c_t_all),(38,.func (.func 116) #[] #[.p0 b1,.p0 b2])] {} (TL.conv [Ow A_t_all c_t_all 122 23 (t.all.map followed.c),Bk b1 #[.i time] 3,Bk b2 #[.slice A_2 r1.1.length c_2] 31,Ow A_2 c_2 44 20 (r1.1.map Za.c),Ow A_xs__2 c_xs__2 44 20 (xs__2.map Za.c),Bk b_t (Ze.k t A_t_all c_t_all) 118] (fun _ hM=>hM.perm (px [5,3,2,0,1,4])) (TL.cm (Γ:=Unit) 4 39 (Xd t.all time r1.1) (fun r2 _=>.slice A_t_all r2.length c_t_all) (fun r2 _=>[Ow A_t_all c_t_all 122 23 (r2.map followed.c),Bk b1 #[.i time] 3,Bk b2 #[.slice A_2 r1.1.length c_2] 31,Ow A_2 c_2 44 20 (r1.1.map Za.c)]) [Ow A_t_all c_t_all 122 23 (t.all.map followed.c),Bk b1 #[.i time] 3,Bk b2 #[.slice A_2 r1.1.length c_2] 31,Ow A_2 c_2 44 20 (r1.1.map Za.c)] Kr (fun w hM=>UZ A_t_all c_t_all t.all b1 time b2 A_2 c_2 r1.1 w hM) {} (fun r2 hr2=>?_))))))))
    intro _
    refine TL.r 9 [] [(41,.pt b_t 6)] {} (TL.s 5 (Bk b_t (Ze.k (⟨t.rules,r2,t.next,t.last⟩:Ze) A_t_all c_t_all) 118) (fun _=>{}) (TL.done rfl ?_))
    have e:Z8 t time=(⟨t.rules,r2,t.next,t.last⟩:Ze):=by subst hr1 hr2;unfold Z8;exact Ye (hR.symm.trans hJ) (rfl)
    refine TE.conv [Bk b_t (Ze.k (⟨t.rules,r2,t.next,t.last⟩:Ze) A_t_all c_t_all) 118,Ow A_t_all c_t_all 122 23 (r2.map followed.c),Bk b1 #[.i time] 3,Bk b2 #[.slice A_2 r1.1.length c_2] 31,Ow A_2 c_2 44 20 (r1.1.map Za.c),Ow A_xs__2 c_xs__2 44 20 (xs__2.map Za.c)] (fun _ hM=>hM.perm (px [5,0,1,2,3,4])) ?_
    rw [e]
    exact TE.retM (.inr rfl) (A_t_all,c_t_all) [] (.tuple #[]) {} rfl (fun _ hM=>hM.sub (sb 3))
end Go.Sky
end
section
namespace Go.Sky
open Go Go.Eng Go.Proofs
def Xy (a:Zf) (b_:Zf) (band:Int):Bool :=
  cond (((a.Time == b_.Time) && (a.Code == b_.Code)) && (a.Code != (-1))) (
    let r1:=ZQ a.At b_.At (w64 (a.Error + b_.Error))
    cond r1 (
      let r2:=JM a.Height b_.Height band
      r2) (
      false)) (
    false)
set_option maxRecDepth 100000 in
theorem BW (a:Zf) (b_:Zf) (band:Int) (w:World):Calls Tryz.prog 88 #[Zf.v a,Zf.v b_,.int .i64 band] w (Ret w (.bool (Xy a b_ band))):=by
  refine Zk (vs:=[Zf.v a,Zf.v b_,.i band]) (w:=w) Tryz.func88 rfl Tryz.ntmps88 rfl (TC.sr (TL.nw 3 (fun b1=>.p0 b1) (fun b1=>Bk b1 (Zf.c a) 42) (fun b1=>{}) (fun b1=>TL.nw 4 (fun b2=>.p0 b2) (fun b2=>Bk b2 (Zf.c b_) 42) (fun b2=>{}) (fun b2=>TL.r 3 [] [(6,.b false)] {} (TL.nr (TL.r 6 [1,0] [(12,.b (a.Time == b_.Time))] {} (TL.j 12 (a.Time == b_.Time) 12 [1,0] [] (fun β=>[(18,.b (β && (a.Code == b_.Code)))]) Kr {} {} (TL.r 13 [] [(19,.b ((a.Time == b_.Time) && (a.Code == b_.Code)))] {} (TL.j 19 ((a.Time == b_.Time) && (a.Code == b_.Code)) 17 [1] [] (fun β=>[(23,.b (β && (a.Code != (-1))))]) Kr {} {} (TL.r 18 [] [(24,.b (((a.Time == b_.Time) && (a.Code == b_.Code)) && (a.Code != (-1))))] {} (TL.split 24 (((a.Time == b_.Time) && (a.Code == b_.Code)) && (a.Code != (-1))) Kr (fun h1=>?_) (fun h1=>?_))))))))))))
  · refine TL.r 27 [1,0,1,0] [(26,P.v a.At),(28,P.v b_.At),(33,.i (w64 (a.Error + b_.Error)))] {} (TL.c 34 (ZQ a.At b_.At (w64 (a.Error + b_.Error))) (fun r1=>.b r1) (fun w _=>QH a.At b_.At (w64 (a.Error + b_.Error)) w) {} (fun r1 hr1=>TL.r 30 [] [(36,.b r1)] {} (TL.split 36 r1 Kr (fun h2=>?_) (fun h2=>?_))))
    · exact TL.r 35 [1,0] [(38,.i a.Height),(40,.i b_.Height),(41,.i band)] {} (TL.c 42 (JM a.Height b_.Height band) (fun r2=>.b r2) (fun w _=>Wc a.Height b_.Height band w) {} (fun r2 hr2=>TL.r 38 [] [(6,.b r2)] {} (TL.next rfl (TC.ret (TE.ret [] (.b r2) {} (by unfold Xy;refine eS (fun z=>(.b z:Value)) ?_;subst hr1 hr2;exact Zi h1 (Zi h2 (rfl))))))))
    · exact TL.r 38 [] [(6,.b false)] {} (TL.next rfl (TC.ret (TE.ret [] (.b false) {} (by unfold Xy;refine eS (fun z=>(.b z:Value)) ?_;subst hr1;exact Zi h1 (Zb h2 (rfl))))))
  · exact TL.r 38 [] [(6,.b false)] {} (TL.next rfl (TC.ret (TE.ret [] (.b false) {} (by unfold Xy;refine eS (fun z=>(.b z:Value)) ?_;exact Zb h1 (rfl)))))
def Yp (s:List Zf):List Zf :=
  s
set_option maxRecDepth 100000 in
theorem JB (A_s:Option Addr) (c_s:Nat) (s:List Zf) (w:World) (h_s:Rd w 6 A_s (s.map Zf.c)) (_hc_s:s.length ≤ c_s) (hb:s.length * 48 ≤ 140737488355328):Calls Tryz.prog 83 #[.slice A_s s.length c_s] w (QK (Γ:=(Option Addr × Nat)) (cx w) (fun g=>.slice g.1 ((Yp s).length) g.2) (fun g=>[.inr (Own g.1 g.2 42 6 ((Yp s).map Zf.c))])):=by
  have s_s:=h_s.short;rw [List.length_map] at s_s
  rcases A_s with _ | a
  · have hz:s=[]:=Fo h_s
    subst hz
    refine Zk (vs:=[.slice none 0 c_s]) (w:=w) Tryz.func83 rfl Tryz.ntmps83 rfl (TC.weak [(0,.slice none 0 c_s)] Kr (TC.sr (TL.r 1 [] [(2,.slice none 0 0)] {} (TL.ns (TC.sr (TL.r 2 [] [(4,.b true)] {} (TL.next rfl (TC.condT rfl Kr (TC.sr (TL.r 1 [] [(2,.slice none 0 0)] {} (TL.next rfl (TC.ret (TE.rt ?_)))))))))))))
    have e:Yp []=([]):=rfl
    refine TE.conv [Ow none 0 42 6 (([]:List Zf).map Zf.c)] (fun _ hM=>hM.emptyrow none 42 6) ?_
    rw [e]
    exact TE.retM (.inl rfl) (none,0) [] (.slice none 0 0) {} rfl (fun _ hM=>hM.sub (sb 1))
  · refine Zk (vs:=[.slice (some a) s.length c_s]) (w:=w) Tryz.func83 rfl Tryz.ntmps83 rfl (TC.weak [(0,.slice (some a) s.length c_s)] Kr (TC.sr (TL.r 1 [] [(2,.slice none 0 0)] {} (TL.ns (TC.sr (TL.r 2 [] [(4,.b false)] {} (TL.next rfl (TC.condF rfl Kr (TC.snr (TL.nw 5 (fun b1=>.slice (Pa b1) 0 0) (fun b1=>Bk b1 #[] 42) (fun b1=>{}) (fun b1=>TL.r 2 [] [(6,.slice (some a) s.length c_s)] {} (TL.conv [Ow (Pa b1) 0 42 6 (([]:List Zf).map Zf.c)] (fun _ hM=>by exact hM.litrow 0 (([]:List Zf).map Zf.c) rfl Kr Kr Kr Kr) (TL.os (Γ:=AN) (sV (Builtin.append_ #[52,52] 52 #[.slice (Pa b1) (([]:List Zf).length) 0,.slice (some a) s.length c_s])) 7 (fun g=>.slice g.1 (([]:List Zf) ++ s).length g.2) 0 (fun g=>Ow g.1 g.2 42 6 ((([]:List Zf) ++ s).map Zf.c)) (Qq (bytes:=48) 52 0 s Kr rfl rfl Zf.one rfl (fun w hM=>(h_s.sat hM)) rfl sa) {} ?_)))))))))))))
    rintro ⟨A,c⟩
    refine TL.r 4 [] [(2,.slice A ((([]:List Zf) ++ s).length) c)] {} (TL.next rfl (TC.ret ?_))
    have e:Yp s=(([]:List Zf) ++ s):=rfl
    rw [e]
    exact TE.retM (.inl rfl) (A,c) [] (.slice A ((([]:List Zf) ++ s).length) c) {} rfl (fun _ hM=>hM.sub (sb 1))
def Jq (x:Zf) (x_2:Zf) (x_3:Int):Bool :=
  let r1:=Xy x x_2 x_3
  r1
set_option maxRecDepth 100000 in
theorem WP (x:Zf) (a_x_2:Addr) (x_2:Zf) (a_x_3:Addr) (x_3:Int) (w:World) (h_x_2:Rd w 6 (some a_x_2) [Zf.c x_2]) (h_x_3:Rd w 1 (some a_x_3) [ic x_3]):Calls Tryz.prog 87 #[Zf.v x,.pointer (some a_x_2),.pointer (some a_x_3)] w (Ret w (.bool (Jq x x_2 x_3))):=by
  exact Zk (vs:=[Zf.v x,.pointer (some a_x_2),.pointer (some a_x_3)]) (w:=w) Tryz.func87 rfl Tryz.ntmps87 rfl (TC.sr (TL.nw 3 (fun b1=>.p0 b1) (fun b1=>Bk b1 (Zf.c x) 42) (fun b1=>{}) (fun b1=>TL.r 2 [] [(4,.b false)] {} (TL.nr (TL.r 1 [0] [(5,Zf.v x)] {} (TL.v (sV (Instr.loadAt 42 (.pointer (some a_x_2)))) 6 (Zf.v x_2) (fun w hM=>Z6 (n:=6) (off:=0) (Zf.v x_2) (h_x_2.sat hM) (X9 _) Kr Kr Kr) {} (TL.v (sV (Instr.loadAt 3 (.pointer (some a_x_3)))) 7 (.i x_3) (fun w hM=>Zs (off:=0) (.i x_3) (h_x_3.sat hM) (X9 _) Kr Kr) {} (TL.c 8 (Xy x x_2 x_3) (fun r1=>.b r1) (fun w _=>BW x x_2 x_3 w) {} (fun r1 hr1=>TL.r 5 [] [(4,.b r1)] {} (TL.next rfl (TC.ret (TE.ret [] (.b r1) {} (by unfold Jq;refine eS (fun z=>(.b z:Value)) ?_;subst hr1;exact rfl)))))))))))))
def Xo (c0:Zf) (c1:Int):List Zf → Nat → ((Unit) ⊕ (Int))
  | [],_=>.inl ()
  | x :: xs,k=>let r1:=Jq x c0 c1
    cond r1 (
      .inr (k:Int)) (
      Xo c0 c1 xs (k + 1))
def Qs (s:List Zf) (c0:Zf) (c1:Int):Int :=
  Sum.elim (fun _ =>
    (-1)) (fun r=>r) (Xo c0 c1 s 0)
set_option maxRecDepth 100000 in
theorem GA (A_s:Option Addr) (c_s:Nat) (s:List Zf) (a_c0:Addr) (c0:Zf) (a_c1:Addr) (c1:Int) (w:World) (h_s:Rd w 6 A_s (s.map Zf.c)) (_hc_s:s.length ≤ c_s) (h_c0:Rd w 6 (some a_c0) [Zf.c c0]) (h_c1:Rd w 1 (some a_c1) [ic c1]):Calls Tryz.prog 144 #[.slice A_s s.length c_s,.func (.func 87) #[] #[.pointer (some a_c0),.pointer (some a_c1)]] w (Ret w (.int .i64 (Qs s c0 c1))):=by
  have s_s:=h_s.short;rw [List.length_map] at s_s
  refine Zk (vs:=[.slice A_s s.length c_s,.func (.func 87) #[] #[.pointer (some a_c0),.pointer (some a_c1)]]) (w:=w) Tryz.func144 rfl Tryz.ntmps144 rfl (TC.sr (TL.r 1 [] [(4,.i 0)] {} (TL.ns (TC.sr (TL.r 3 [] [(7,.i (s.length:Int)),(8,.i 0)] {} (TL.next rfl ?_))))))
  obtain ⟨R1,hR⟩:∃ R,R=Xo c0 c1 s 0:=⟨_,rfl⟩
  refine TC.cut (S:=Unit) (fun (_:Unit)=>[]) (fun (_:Unit)=>[]) (fun (_:Unit)=>R1=.inl ()) ?_ ?_
  · refine TC.block (TC.lw (X:=Nat) (fun k=>[(0,.slice A_s s.length c_s),(1,.func (.func 87) #[] #[.pointer (some a_c0),.pointer (some a_c1)]),(7,.i (s.length:Int)),(8,.i (k:Int))]) (fun k=>[]) (fun k=>s.length - k) (fun k=>k ≤ s.length ∧ R1=Xo c0 c1 (s.drop k) k) ?_ 0 ⟨Nat.zero_le _,hR⟩ Kr (sb 0))
    rintro k ⟨hk,hI⟩
    refine TC.sr (TL.r 1 [] [(9,.b (decide ((k:Int) < (s.length:Int))))] {} (TL.ns (TC.cond (decide ((k:Int) < (s.length:Int))) rfl Kr (fun h1=>?_) (fun h1=>?_))))
    · have hlt:=ltN h1
      obtain ⟨x,hx⟩:=elN hlt
      have hd:=drop_at hx
      refine TC.sn (TC.seq (TC.block (TC.sr (TL.r 2 [] [(5,.i (k:Int))] {} (TL.nr (TL.r 3 [] [(11,.func (.func 87) #[] #[.pointer (some a_c0),.pointer (some a_c1)]),(12,.slice A_s s.length c_s),(13,.i (k:Int))] {} (TL.v (sV (Instr.indexAt 52 (.slice A_s s.length c_s) (.i (k:Int)))) 14 (.pointer (some (Ix A_s (k * 6)))) (fun w hM=>Zr (h_s.sat hM) (by simp) Kr sd sd) {} (TL.v (sV (Instr.loadAt 42 (.pointer (some (Ix A_s (k * 6)))))) 15 (Zf.v x) (fun w hM=>Z6 (n:=6) (off:=0) (i:=k) (Zf.v x) (h_s.sat hM) (ZA hx) Kr Kr Kr) {} (TL.c 16 (Jq x c0 c1) (fun r1=>.b r1) (fun w hM=>WP x a_c0 c0 a_c1 c1 w (h_c0.sat hM) (h_c1.sat hM)) {} (fun r1 hr1=>TL.next rfl (TC.cond r1 rfl Kr (fun h2=>?_) (fun h2=>?_))))))))))))
      · refine TC.sr (TL.r 2 [] [(4,.i (k:Int))] {} (TL.next rfl (TC.ret (TE.rb (TE.rt (TE.rt (TE.rb (TE.rt (TE.rt ?_)))))))))
        exact TE.ret [] (.i (k:Int)) {} (by unfold Qs;refine eS (fun z=>(.i z:Value)) ?_;subst hr1;exact X7 (hR.symm.trans (hI.trans (by rw [hd];exact Zi h2 (rfl)))) rfl)
      · exact TC.skip (TE.nb (TE.next (TC.region (TL.r 2 [] [(8,.i (w64 ((k:Int) + 1)))] {} (TL.done rfl (TE.rw 8 (.i (w64 ((k:Int) + 1))) (.i ((k + 1:Nat):Int)) Kr (ZD k (by omega)) (TE.again (x:=k) (k + 1) ⟨by omega,hI.trans (by subst hr1;rw [hd];exact Zb h2 (rfl))⟩ (mN hlt) Kr (sb 0))))))))
    · have hd:=XL h1
      refine TC.exit (TE.et (TE.et (TE.exit_same ?_)))
      exact TE.cut () (hI.trans (by rw [hd];exact rfl)) Kr (sb 0)
  · intro _ hJ
    exact TE.nr (TL.r 1 [] [(4,.i (-1))] {} (TL.next rfl (TC.ret (TE.ret [] (.i (-1)) {} (by unfold Qs;refine eS (fun z=>(.i z:Value)) ?_;exact XI (hR.symm.trans hJ) (rfl))))))
def Xa (s:List Zf) (c0:Zf) (c1:Int):Bool :=
  let r1:=Qs s c0 c1
  decide (r1 ≥ 0)
set_option maxRecDepth 100000 in
theorem Us (A_s:Option Addr) (c_s:Nat) (s:List Zf) (a_c0:Addr) (c0:Zf) (a_c1:Addr) (c1:Int) (w:World) (h_s:Rd w 6 A_s (s.map Zf.c)) (hc_s:s.length ≤ c_s) (h_c0:Rd w 6 (some a_c0) [Zf.c c0]) (h_c1:Rd w 1 (some a_c1) [ic c1]):Calls Tryz.prog 86 #[.slice A_s s.length c_s,.func (.func 87) #[] #[.pointer (some a_c0),.pointer (some a_c1)]] w (Ret w (.bool (Xa s c0 c1))):=by
  have s_s:=h_s.short;rw [List.length_map] at s_s
  exact Zk (vs:=[.slice A_s s.length c_s,.func (.func 87) #[] #[.pointer (some a_c0),.pointer (some a_c1)]]) (w:=w) Tryz.func86 rfl Tryz.ntmps86 rfl (TC.sr (TL.r 1 [] [(4,.b false)] {} (TL.nr (TL.r 2 [] [(5,.slice A_s s.length c_s),(6,.func (.func 87) #[] #[.pointer (some a_c0),.pointer (some a_c1)])] {} (TL.c 7 (Qs s c0 c1) (fun r1=>.i r1) (fun w hM=>GA A_s c_s s a_c0 c0 a_c1 c1 w (h_s.sat hM) hc_s (h_c0.sat hM) (h_c1.sat hM)) {} (fun r1 hr1=>TL.r 5 [] [(4,.b (decide (r1 ≥ 0)))] {} (TL.next rfl (TC.ret (TE.ret [] (.b (decide (r1 ≥ 0))) {} (by unfold Xa;refine eS (fun z=>(.b z:Value)) ?_;subst hr1;exact rfl))))))))))
end Go.Sky
end
section
namespace Go.Sky
open Go Go.Eng Go.Proofs
def YD (a:Zf) (b_:Zf):Int :=
  let r1:=cmp_Compare_int a.Time b_.Time
  let r2:=cmp_Compare_int a.Error b_.Error
  let r3:=cmp_Compare_int a.At.X b_.At.X
  let r4:=cmp_Compare_int a.At.Y b_.At.Y
  let r5:=cmp_Compare_int a.Height b_.Height
  let r6:=cmp_Compare_int a.Code b_.Code
  let r7:=QQ ([r1,r2,r3,r4,r5,r6])
  r7
set_option maxRecDepth 100000 in
theorem WQ (a:Zf) (b_:Zf) (w:World):Calls Tryz.prog 85 #[Zf.v a,Zf.v b_] w (Ret w (.int .i64 (YD a b_))):=by
  exact Zk (vs:=[Zf.v a,Zf.v b_]) (w:=w) Tryz.func85 rfl Tryz.ntmps85 rfl (TC.sr (TL.nw 2 (fun b1=>.p0 b1) (fun b1=>Bk b1 (Zf.c a) 42) (fun b1=>{}) (fun b1=>TL.nw 3 (fun b2=>.p0 b2) (fun b2=>Bk b2 (Zf.c b_) 42) (fun b2=>{}) (fun b2=>TL.r 3 [] [(4,.i 0)] {} (TL.ns (TC.drawTail 34 Kr Kr (TQ.r 4 [1,0] [(6,.i a.Time),(8,.i b_.Time)] {} (TQ.c 9 (cmp_Compare_int a.Time b_.Time) (fun r1=>.i r1) (fun w _=>ZZ a.Time b_.Time w) rfl {} (fun r1 hr1=>TQ.r 9 [1,0] [(11,.i a.Error),(13,.i b_.Error)] {} (TQ.c 14 (cmp_Compare_int a.Error b_.Error) (fun r2=>.i r2) (fun w _=>ZZ a.Error b_.Error w) rfl {} (fun r2 hr2=>TQ.r 16 [1,0] [(17,.i a.At.X),(20,.i b_.At.X)] {} (TQ.c 21 (cmp_Compare_int a.At.X b_.At.X) (fun r3=>.i r3) (fun w _=>ZZ a.At.X b_.At.X w) rfl {} (fun r3 hr3=>TQ.r 23 [1,0] [(24,.i a.At.Y),(27,.i b_.At.Y)] {} (TQ.c 28 (cmp_Compare_int a.At.Y b_.At.Y) (fun r4=>.i r4) (fun w _=>ZZ a.At.Y b_.At.Y w) rfl {} (fun r4 hr4=>TQ.r 28 [1,0] [(30,.i a.Height),(32,.i b_.Height)] {} (TQ.c 33 (cmp_Compare_int a.Height b_.Height) (fun r5=>.i r5) (fun w _=>ZZ a.Height b_.Height w) rfl {} (fun r5 hr5=>TQ.r 33 [1,0] [(35,.i a.Code),(37,.i b_.Code)] {} (TQ.c 38 (cmp_Compare_int a.Code b_.Code) (fun r6=>.i r6) (fun w _=>ZZ a.Code b_.Code w) rfl {} (fun r6 hr6=>TQ.tail rfl (TL.nw 39 (fun b3=>.slice (Pa b3) 6 6) (fun b3=>Bk b3 #[.i r1,.i r2,.i r3,.i r4,.i r5,.i r6] 3) (fun b3=>{}) (fun b3=>TL.c 40 (QQ ([r1,r2,r3,r4,r5,r6])) (fun r7=>.i r7) (fun w hM=>V1 (Pa b3) 6 ([r1,r2,r3,r4,r5,r6]) w (Rd.lit hM 0 _ rfl Kr Kr Kr) (Nat.le_refl _)) {} (fun r7 hr7=>TL.r 37 [] [(4,.i r7)] {} (TL.next rfl (TC.ret (TE.ret [] (.i r7) {} (by unfold YD;refine eS (fun z=>(.i z:Value)) ?_;subst hr1 hr2 hr3 hr4 hr5 hr6 hr7;exact rfl))))))))))))))))))))))))))
end Go.Sky
end
section
namespace Go.Eng
open Go.Sort Go.Proofs Go.Shelf
theorem flat_get {sz:Nat}:∀ (rows:List (Array Value)) (i j:Nat) (r:Array Value),(∀ r ∈ rows,r.size=sz) → rows[i]?=some r → j < sz → (flat rows)[i * sz + j]?=r[j]?
  | [],i,j,r,_,hi,_=>by simp at hi
  | r0 :: rows,0,j,r,hall,hi,hj=>by
    have h0:=hall r0 (by simp)
    simp only [List.getElem?_cons_zero,Option.some.injEq] at hi
    subst hi
    rw [Jl,Nat.zero_mul,Nat.zero_add,List.getElem?_append_left (by rw [Array.length_toList,h0];exact hj),Array.getElem?_toList]
  | r0 :: rows,i + 1,j,r,hall,hi,hj=>by
    have h0:=hall r0 (by simp)
    rw [List.getElem?_cons_succ] at hi
    have e:(i + 1) * sz + j - sz=i * sz + j:=by rw [Nat.add_mul];omega
    rw [Jl,List.getElem?_append_right (by rw [Array.length_toList,h0,Nat.add_mul];omega),Array.length_toList,h0,e]
    exact flat_get rows i j r (fun r hr=>hall r (by simp [hr])) hi hj
section
variable {α:Type} [Inhabited α]
theorem WR {c:α → Array Value} {k:Nat} (hk:∀ x,(c x).size=k) (l:List α):(flatK (fun x=>(c x).toList) k l.toArray).toList=flat (l.map c):=by
  have hall:∀ r ∈ l.map c,r.size=k:=by
    intro r hr
    obtain ⟨x,_,rfl⟩:=List.mem_map.1 hr
    exact hk x
  have hl:=Q4 (l.map c) hall
  rw [List.length_map] at hl
  apply List.ext_getElem?
  intro t
  by_cases ht:t < l.length * k
  · have hk0:0 < k:=by
      rcases Nat.eq_zero_or_pos k with h | h
      · rw [h,Nat.mul_zero] at ht;omega
      · exact h
    have hi:t / k < l.length:=(Nat.div_lt_iff_lt_mul hk0).2 ht
    have hj:t % k < k:=Nat.mod_lt _ hk0
    have hg:=flat_get (l.map c) (t / k) (t % k) (c (l[t / k]'hi)) hall (by rw [List.getElem?_map,List.getElem?_eq_getElem hi];rfl) hj
    have et:t / k * k + t % k=t:=by rw [Nat.mul_comm];exact Nat.div_add_mod t k
    rw [et] at hg
    rw [hg]
    have hs:t < (flatK (fun x=>(c x).toList) k l.toArray).size:=by rw [size_flatK];simpa using ht
    rw [Array.getElem?_toList,Array.getElem?_eq_getElem hs]
    have hx:=get_flatK (fun x=>(c x).toList) k l.toArray t (by simpa using ht)
    rw [getElem!_pos (flatK (fun x=>(c x).toList) k l.toArray) t hs] at hx
    rw [hx]
    have hsz:t % k < (c (l[t / k]'hi)).size:=by rw [hk];exact hj
    rw [Array.getElem?_eq_getElem hsz]
    have e1:(l.toArray)[t / k]! = l[t / k]'hi:=by
      rw [getElem!_pos l.toArray (t / k) (by simpa using hi)];simp
    rw [e1,getElem!_pos ((c (l[t / k]'hi)).toList) (t % k) (by simpa using hsz)]
    simp
  · rw [List.getElem?_eq_none (by rw [Array.length_toList,size_flatK];simpa using Nat.le_of_not_lt ht),List.getElem?_eq_none (by rw [hl];omega)]
theorem RZ {w:World} {g:Nat} {cur:Array Value} {e:TypeId} {vs:Array Value} (hb:w.heap[g]?=some (.cells cur e (0,0))) (ht:cur.toList.take vs.size=vs.toList):Holds id w g 0 vs:=by
  intro j hj
  refine ⟨?_,by simp [World.frozen?,hb]⟩
  have h1:(cur.toList.take vs.size)[j]?=vs.toList[j]?:=by rw [ht]
  rw [List.getElem?_take_of_lt hj,Array.getElem?_toList,Array.getElem?_toList] at h1
  simp only [World.cell?,hb,Nat.zero_add]
  simp only [Option.isSome_none,Bool.false_eq_true,if_false]
  rw [h1]
  simp [hj]
theorem S3 {w:World} {g n:Nat} {os:Array Obj} {cur:Array Value} {e:TypeId} {fr:Nat × Nat} (d:Array Value) (hb:w.heap[g]?=some (.cells cur e fr)) :
    (grow (putRow id (Sort.ahead w n) g 0 d) os).heap[g]?=some (.cells (putCells id 0 d cur) e fr):=by
  have hg:g < w.heap.size:=(Array.getElem?_eq_some_iff.1 hb).1
  rw [heap_grow_old _ _ (by simpa using hg)]
  simp [putRow,mapBlock,Sort.ahead,Array.getElem?_modify,hb,onCells]
theorem Cb {w:World} {g n:Nat} {os:Array Obj} (d:Array Value):w.grownBy (grow (putRow id (Sort.ahead w n) g 0 d) os) (some g):=by
  refine ⟨rfl,rfl,rfl,by simp,fun k hk hne=>?_⟩
  rw [heap_grow_old _ _ (by simpa using hk)]
  have:g ≠ k:=fun e=>hne (by rw [e])
  simp [putRow,mapBlock,Sort.ahead,Array.getElem?_modify,this]
theorem S4 (cur:Array Value) (vs:Array Value) (h:vs.size ≤ cur.size):(putCells id 0 vs cur).toList.take vs.size=vs.toList:=by
  apply List.ext_getElem?
  intro j
  by_cases hj:j < vs.size
  · rw [List.getElem?_take_of_lt hj,Array.getElem?_toList,Array.getElem?_toList]
    simp [putCells,hj,show j < cur.size by omega]
  · rw [List.getElem?_take_eq_none (by omega),List.getElem?_eq_none (by simp;omega)]
theorem WS {w w':World} (h:Below w.heap.size w w'):∃ q os',w'=grow (w.drewN q) os':=by
  refine ⟨w'.drawn - w.drawn,w'.heap.extract w.heap.size w'.heap.size,?_⟩
  have hd:w.drawn + (w'.drawn - w.drawn)=w'.drawn:=by have:=h.drawn;omega
  have hh:w.heap ++ w'.heap.extract w.heap.size w'.heap.size=w'.heap:=by
    apply Array.ext_getElem?
    intro i
    by_cases hi:i < w.heap.size
    · rw [Array.getElem?_append_left hi];exact (h.block i hi).symm
    · rw [Array.getElem?_append_right (by omega)]
      by_cases hi2:i < w'.heap.size
      · rw [Array.getElem?_extract]
        simp only [show i - w.heap.size < min w'.heap.size w'.heap.size - w.heap.size by omega,if_true]
        congr 1;omega
      · rw [Array.getElem?_eq_none (by simp;omega),Array.getElem?_eq_none (by omega)]
  obtain ⟨h1,t1,d1,o1,u1⟩:=w
  obtain ⟨h2,t2,d2,o2,u2⟩:=w'
  have a:=h.os
  have b:=h.tape
  have c:=h.output
  simp only at a b c hd hh
  subst a b c
  show World.mk h2 t2 d2 o2 u2=World.mk _ _ _ _ _
  congr 1
  · exact hh.symm
  · exact hd.symm
theorem F9 {P:Program} {ρ:Ren} (L:SlLaysF0.n6 P ρ) {k:Nat} {c:α → Array Value} (aE:∀ w,(isAgg (ρ.t 24)).run P w=.ok true w) (zE:∀ w,(Go.sizeOf (ρ.t 24)).run P w=.ok k w) (hk:∀ x,(c x).size=k) (h1:∀ x,∀ v ∈ (c x).toList,v.oneCell'=true)
    (cf:α → α → Int) (hO:SWO (ltOf cf)) (g:Nat) (eg:∀ args w,(callFunc g args).run P w=.ok (.enter g args) w) (hcmp:∀ x y W,Calls P g #[.agg (c x),.agg (c y)] W (Ret W (.int .i64 (cf x y)))) (hT:∀ x y,ltOf cf x y=false → ltOf cf y x=false → x=y) (A:Option Addr) (cap e:Nat) (l:List α) (w:World)
    (hM:Sat ⟨w,Xf [.inr (Own A cap e k (l.map c))]⟩ [.inr (Own A cap e k (l.map c))] w) :
    Calls P (ρ.f 6) #[.slice A l.length cap,.func (.func g) #[] #[]] w (QK (Γ:=List α) ⟨w,Xf [.inr (Own A cap e k (l.map c))]⟩ (fun _=>.tuple #[])
      (fun r=>[.inr (X8 (r.length=l.length ∧ r=l.mergeSort (fun x y=>!ltOf cf y x))),.inr (Own A cap e k (r.map c))])):=by
  rcases hM.own_at 0 rfl with ⟨hc,hr⟩ | ⟨b,cur,h⟩
  · have hl:l=[]:=by simpa using hr
    subst hl
    refine (AnyF.slices_SortFunc_none L A cap _ w).mono ?_
    rintro en w' ⟨rfl,rfl⟩
    exact ⟨[],rfl,hM.fact (by simp)⟩
  · have hl:(l.map c).length=l.length:=by simp
    have hat:=h.at_;subst hat
    have hh:=h.heap
    have hflat:=WR hk l
    have hvs:(flatK (fun x=>(c x).toList) k l.toArray).size=l.length * k:=by rw [size_flatK];simp
    have ht:cur.toList.take (flatK (fun x=>(c x).toList) k l.toArray).size=(flatK (fun x=>(c x).toList) k l.toArray).toList:=by
      rw [hflat,hvs]
      have:=h.holds
      rwa [hl] at this
    have hcl:CmpLays P g #[] (fun x=>(c x).toList) k cf b 0 l.toArray.size w:=by
      intro m os dk _ x y
      refine (hcmp x y _).mono ?_
      rintro en w' ⟨he,hb⟩
      exact ⟨he,WS hb⟩
    have hs62:l.toArray.size < 4611686018427387904:=by have:=h.short;rw [hl] at this;simpa using this
    have hcon:=AnyQ.slices_SortFunc_total L k aE zE (fun x=>(c x).toList) (fun x=>by rw [Array.length_toList,hk]) h1 cf hO g #[] b 0 cap l.toArray w eg hcl (RZ hh ht) (UP hh) hs62 hT
    rw [List.size_toArray] at hcon
    refine hcon.mono ?_
    rintro en w' ⟨rfl,n,os,rfl⟩
    obtain ⟨d',hd'⟩:∃ d',d'=(l.toArray.toList.mergeSort fun x y=>!(ltOf cf) y x).toArray:=⟨_,rfl⟩
    rw [← hd']
    have hds:d'.toList=l.mergeSort fun x y=>!(ltOf cf) y x:=by rw [hd']
    have hdl:d'.toList.length=l.length:=by rw [hds,List.length_mergeSort]
    have hflat2:=WR hk d'.toList
    rw [Array.toArray_toList] at hflat2
    have hvs2:(flatK (fun x=>(c x).toList) k d').size=l.length * k:=by rw [size_flatK,← hdl,Array.length_toList]
    have hle:=h.le;rw [hl] at hle
    have hsz:=h.size
    have hG:=Cb (w:=w) (g:=b) (n:=n) (os:=os) (flatK (fun x=>(c x).toList) k d')
    have hB:=S3 (w:=w) (g:=b) (n:=n) (os:=os) (cur:=cur) (e:=e) (fr:=(0,0)) (flatK (fun x=>(c x).toList) k d') hh
    refine ⟨d'.toList,rfl,Sat.fact ?_ ⟨hdl,hds⟩⟩
    · refine hM.step (j:=0) (e':=.inr (Own (some ⟨b,0,none⟩) cap e k (d'.toList.map c))) rfl ⟨hG.os,hG.tape,hG.output,hG.size,fun q hq hf=>hG.block q hq (fun he=>hf ?_),Nat.le_add_right _ _⟩ ?_ (fun b hb=>.inl hb)
      · simp only [Option.some.injEq] at he
        exact ⟨h.pos,_,rfl,he.symm⟩
      · refine .inr ⟨b,putCells id 0 (flatK (fun x=>(c x).toList) k d') cur,rfl,h.pos,hB,by rw [List.length_map,hdl];exact hle,h.max,by simp [putCells,hsz],?_,?_,?_⟩
        · rw [List.length_map,hdl,← hvs2,S4 cur _ (by rw [hvs2,hsz];exact Nat.mul_le_mul_right _ hle),hflat2]
        · intro r hr
          obtain ⟨x,_,rfl⟩:=List.mem_map.1 hr
          exact hk x
        · rw [List.length_map,hdl];have:=h.short;rwa [hl] at this
end
end Go.Eng
end
section
namespace Go.Proofs
open Go.Shelf
def Tryz.laysSpot_ren:Go.Shelf.Ren:=⟨fun | 6=>84 | 15=>141 | 14=>140 | 28=>179 | 29=>169 | 20=>171 | 21=>172 | 22=>173 | 23=>174 | 24=>175 | 25=>176 | 26=>177 | 27=>178 | 46=>203 | 47=>204 | 48=>205 | 49=>206 | 50=>207 | 57=>227 | n=>n,fun | 22=>52 | 24=>42 | 25=>173 | 3=>3 | 39=>227 | 0=>0 | 53=>251 | 55=>162 | 4=>4 | 46=>245 | 45=>244 | 50=>208 | 5=>5 | 9=>9 | 66=>268 | 70=>272 | 76=>280 | 77=>148 | n=>n,fun | n=>n⟩
theorem Tryz.laysSpot:SlLaysF0.n6 Tryz.prog Tryz.laysSpot_ren:={
  mixed:=by kernel_rfl,
  f6:=⟨Tryz.f84.name,by decide,Tryz.func84.trans (congrArg some (by kernel_rfl))⟩,
  f14:=⟨Tryz.f140.name,by decide,Tryz.func140.trans (congrArg some (by kernel_rfl))⟩,
  f15:=Tryz.func141.trans (congrArg some (by kernel_rfl)),
  f20:=⟨Tryz.f171.name,by decide,Tryz.func171.trans (congrArg some (by kernel_rfl))⟩,
  f21:=⟨Tryz.f172.name,by decide,Tryz.func172.trans (congrArg some (by kernel_rfl))⟩,
  f22:=⟨Tryz.f173.name,by decide,Tryz.func173.trans (congrArg some (by kernel_rfl))⟩,
  f23:=⟨Tryz.f174.name,by decide,Tryz.func174.trans (congrArg some (by kernel_rfl))⟩,
  f24:=⟨Tryz.f175.name,by decide,Tryz.func175.trans (congrArg some (by kernel_rfl))⟩,
  f25:=⟨Tryz.f176.name,by decide,Tryz.func176.trans (congrArg some (by kernel_rfl))⟩,
  f26:=⟨Tryz.f177.name,by decide,Tryz.func177.trans (congrArg some (by kernel_rfl))⟩,
  f27:=⟨Tryz.f178.name,by decide,Tryz.func178.trans (congrArg some (by kernel_rfl))⟩,
  f28:=Tryz.func179.trans (congrArg some (by kernel_rfl)),
  f29:=Tryz.func169.trans (congrArg some (by kernel_rfl)),
  f46:=⟨Tryz.f203.name,by decide,Tryz.func203.trans (congrArg some (by kernel_rfl))⟩,
  f47:=Tryz.func204.trans (congrArg some (by kernel_rfl)),
  f48:=Tryz.func205.trans (congrArg some (by kernel_rfl)),
  f49:=⟨Tryz.f206.name,by decide,Tryz.func206.trans (congrArg some (by kernel_rfl))⟩,
  f50:=⟨Tryz.f207.name,by decide,Tryz.func207.trans (congrArg some (by kernel_rfl))⟩,
  f57:=⟨Tryz.f227.name,by decide,Tryz.func227.trans (congrArg some (by kernel_rfl))⟩,
  t0:=Tryz.underlying0,
  a0:=Tryz.isAgg0,
  z0:=Tryz.sizeOf0,
  v0:=Tryz.zeroValue0,
  t3:=Tryz.underlying3,
  a3:=Tryz.isAgg3,
  z3:=Tryz.sizeOf3,
  v3:=Tryz.zeroValue3,
  t4:=Tryz.underlying4,
  a4:=Tryz.isAgg4,
  z4:=Tryz.sizeOf4,
  v4:=Tryz.zeroValue4,
  t5:=Tryz.underlying5,
  a5:=Tryz.isAgg5,
  z5:=Tryz.sizeOf5,
  v5:=Tryz.zeroValue5,
  t9:=Tryz.underlying9,
  a9:=Tryz.isAgg9,
  z9:=Tryz.sizeOf9,
  v9:=Tryz.zeroValue9,
  t22:=Tryz.underlying52,
  a22:=Tryz.isAgg52,
  z22:=Tryz.sizeOf52,
  v22:=Tryz.zeroValue52,
  t25:=Tryz.underlying173,
  a25:=Tryz.isAgg173,
  z25:=Tryz.sizeOf173,
  v25:=Tryz.zeroValue173,
  t39:=Tryz.underlying227,
  a39:=Tryz.isAgg227,
  z39:=Tryz.sizeOf227,
  v39:=Tryz.zeroValue227,
  t45:=Tryz.underlying244,
  a45:=Tryz.isAgg244,
  z45:=Tryz.sizeOf244,
  v45:=Tryz.zeroValue244,
  t46:=Tryz.underlying245,
  a46:=Tryz.isAgg245,
  z46:=Tryz.sizeOf245,
  v46:=Tryz.zeroValue245,
  t50:=Tryz.underlying208,
  a50:=Tryz.isAgg208,
  z50:=Tryz.sizeOf208,
  v50:=Tryz.zeroValue208,
  t53:=Tryz.underlying251,
  a53:=Tryz.isAgg251,
  z53:=Tryz.sizeOf251,
  v53:=Tryz.zeroValue251,
  t55:=Tryz.underlying162,
  a55:=Tryz.isAgg162,
  z55:=Tryz.sizeOf162,
  v55:=Tryz.zeroValue162,
  t66:=Tryz.underlying268,
  a66:=Tryz.isAgg268,
  z66:=Tryz.sizeOf268,
  v66:=Tryz.zeroValue268,
  t70:=Tryz.underlying272,
  a70:=Tryz.isAgg272,
  z70:=Tryz.sizeOf272,
  v70:=Tryz.zeroValue272,
  t76:=Tryz.underlying280,
  a76:=Tryz.isAgg280,
  z76:=Tryz.sizeOf280,
  v76:=Tryz.zeroValue280,
  t77:=Tryz.underlying148,
  a77:=Tryz.isAgg148,
  z77:=Tryz.sizeOf148,
  v77:=Tryz.zeroValue148 }
end Go.Proofs
end
section
namespace Go.Srt
open Go Go.Eng Go.Sky
def lx:List Int → List Int → Bool
  | x :: xs,y :: ys=>decide (x < y) || (decide (x=y) && lx xs ys)
  | _,_=>false
theorem Gf:∀ xs ys:List Int,lx xs ys=true → lx ys xs=false
  | [],ys,h=>by cases ys <;> cases h
  | x :: xs,[],h=>by cases h
  | x :: xs,y :: ys,h=>by
    simp only [lx,Bool.or_eq_true,Bool.and_eq_true,decide_eq_true_eq] at h
    simp only [lx,Bool.or_eq_false_iff,Bool.and_eq_false_iff,decide_eq_false_iff_not]
    rcases h with h | ⟨h1,h2⟩
    · exact ⟨by omega,.inl (by omega)⟩
    · exact ⟨by omega,.inr (Gf xs ys h2)⟩
theorem NC:∀ xs ys zs:List Int,xs.length=ys.length → ys.length=zs.length → lx xs ys=false → lx ys zs=false → lx xs zs=false
  | [],_,zs,_,_,_,_=>by cases zs <;> rfl
  | x :: xs,[],zs,h,_,_,_=>by cases h
  | x :: xs,y :: ys,[],_,h,_,_=>by cases h
  | x :: xs,y :: ys,w :: zs,h1,h2,h3,h4=>by
    simp only [lx,Bool.or_eq_false_iff,Bool.and_eq_false_iff,decide_eq_false_iff_not] at h3 h4 ⊢
    refine ⟨by omega,?_⟩
    by_cases e:x=w
    · have e1:x=y:=by omega
      have e2:y=w:=by omega
      exact .inr (NC xs ys zs (by simpa using h1) (by simpa using h2) (h3.2.resolve_left (fun q=>q e1)) (h4.2.resolve_left (fun q=>q e2)))
    · exact .inl e
theorem ND:∀ xs ys:List Int,xs.length=ys.length → lx xs ys=false → lx ys xs=false → xs=ys
  | [],[],_,_,_=>rfl
  | [],y :: ys,h,_,_=>by cases h
  | x :: xs,[],h,_,_=>by cases h
  | x :: xs,y :: ys,h1,h2,h3=>by
    simp only [lx,Bool.or_eq_false_iff,Bool.and_eq_false_iff,decide_eq_false_iff_not] at h2 h3
    have e:x=y:=by omega
    rw [e,ND xs ys (by simpa using h1) (h2.2.resolve_left (fun q=>q e)) (h3.2.resolve_left (fun q=>q e.symm))]
theorem FA (x y:Int):cmp_Compare_int x y=if x < y then -1 else if x > y then 1 else 0:=by
  unfold cmp_Compare_int cmp_isNaN_int
  simp only [bne_self_eq_false,cond_false]
  by_cases h:x < y
  · rw [decide_eq_true h,cond_true,if_pos h]
  · rw [decide_eq_false h,cond_false,if_neg h]
    by_cases h2:x > y
    · rw [decide_eq_true h2,cond_true,if_pos h2]
    · rw [decide_eq_false h2,cond_false,if_neg h2]
theorem Cc:∀ (xs ys:List Int) (k:Nat),xs.length=ys.length → decide (Sum.elim (fun _=>(0:Int)) (fun r=>r) (Ja (List.zipWith cmp_Compare_int xs ys) k) < 0)=lx xs ys
  | [],[],k,_=>rfl
  | [],y :: ys,k,h=>by cases h
  | x :: xs,[],k,h=>by cases h
  | x :: xs,y :: ys,k,h=>by
    have ih:=Cc xs ys (k + 1) (by simpa using h)
    rw [List.zipWith_cons_cons]
    unfold Ja lx
    rw [FA]
    by_cases h1:x < y
    · rw [if_pos h1,decide_eq_true h1];rfl
    · rw [if_neg h1,decide_eq_false h1,Bool.false_or]
      by_cases h2:x > y
      · rw [if_pos h2,decide_eq_false (by omega:¬ x=y)];rfl
      · rw [if_neg h2,decide_eq_true (by omega:x=y),Bool.true_and];exact ih
end Go.Srt
namespace Go.Srt
open Go Go.Eng Go.Sky Go.Proofs Go.Sort
def HO (p:Zf):List Int:=[p.Time,p.Error,p.At.X,p.At.Y,p.Height,p.Code]
theorem BX (x y:Zf):ltOf YD x y=lx (HO x) (HO y):=Cc (HO x) (HO y) 0 rfl
theorem E2:SWO (ltOf YD):=by
  have irr:∀ x,ltOf YD x x=false:=fun x=>by
    cases h:ltOf YD x x with
    | false=>rfl
    | true=>rw [BX] at h;rw [Gf _ _ h] at h;cases h
  have ntr:∀ x y z,ltOf YD x y=false → ltOf YD y z=false → ltOf YD x z=false:=fun x y z h1 h2=>by
    rw [BX] at h1 h2 ⊢;exact NC (HO x) (HO y) (HO z) rfl rfl h1 h2
  refine ⟨irr,fun x y z h1 h2=>?_,ntr⟩
  cases h:ltOf YD x z with
  | true=>rfl
  | false =>
    exfalso
    have h3:ltOf YD z y=false:=by rw [BX] at h2 ⊢;exact Gf _ _ h2
    rw [ntr x z y h h3] at h1;cases h1
theorem E3 (x y:Zf) (h1:ltOf YD x y=false) (h2:ltOf YD y x=false):x=y:=by
  rw [BX] at h1 h2
  have:=ND (HO x) (HO y) rfl h1 h2
  obtain ⟨xt,⟨xx,xy⟩,xh,xc,xe⟩:=x
  obtain ⟨yt,⟨yx,yy⟩,yh,yc,ye⟩:=y
  simp [HO] at this
  simp [this]
instance:Inhabited Zf:=⟨Zf.zero⟩
def VG (l:List Zf):List Zf:=l.mergeSort (fun x y=>!ltOf YD y x)
theorem E4 (x y:Zf) (W:World):Calls Tryz.prog 85 #[.agg (Zf.c x),.agg (Zf.c y)] W (Ret W (.int .i64 (YD x y))):=WQ x y W
set_option maxRecDepth 100000 in
theorem NE (A:Option Addr) (cap e:Nat) (l:List Zf) (w:World) (hM:Sat ⟨w,Xf [.inr (Own A cap e 6 (l.map Zf.c))]⟩ [.inr (Own A cap e 6 (l.map Zf.c))] w) :
    Calls Tryz.prog 84 #[.slice A l.length cap,.func (.func 85) #[] #[]] w (QK (Γ:=List Zf) ⟨w,Xf [.inr (Own A cap e 6 (l.map Zf.c))]⟩ (fun _=>.tuple #[])
      (fun r=>[.inr (X8 (r.length=l.length ∧ r=VG l)),.inr (Own A cap e 6 (r.map Zf.c))])) :=
  F9 (P:=Tryz.prog) (c:=Zf.c) (k:=6) Tryz.laysSpot (fun _=>by kernel_rfl) (fun _=>by kernel_rfl) (fun _=>rfl) (fun x v hv=>by simp [Zf.c] at hv;rcases hv with rfl | rfl | rfl | rfl | rfl | rfl <;> rfl) YD E2 85 (fun _ _=>by kernel_rfl) E4 E3 A cap e l w hM
end Go.Srt
end
section
namespace Go.Sky
open Go Go.Eng Go.Proofs
open Go.Srt
set_option maxRecDepth 100000 in
theorem Cd (A_x:Option Addr) (c_x:Nat) (x:List Zf) (w:World) (hM:Sat ⟨w,Xf [.inr (Own A_x c_x 42 6 (x.map Zf.c))]⟩ [.inr (Own A_x c_x 42 6 (x.map Zf.c))] w):Calls Tryz.prog 84 #[.slice A_x x.length c_x,.func (.func 85) #[] #[]] w (QK (Γ:=(List Zf)) ⟨w,Xf [.inr (Own A_x c_x 42 6 (x.map Zf.c))]⟩ (fun _=>.tuple #[]) (fun g=>[.inr (X8 (g.length=x.length ∧ g=VG x)),.inr (Own A_x c_x 42 6 (g.map Zf.c))])):=by
  exact NE A_x c_x _ x w hM
def Jb:List Zf → Nat → ((Unit) ⊕ ((List Zf) × Int))
  | [],_=>.inl ()
  | x :: xs,k=>let r1:=Zy x
    cond (r1 != 0) (
      .inr ([],r1)) (
      Jb xs (k + 1))
def Xp (band:Int):List Zf → Nat → (List Zf) → (List Zf)
  | [],_,out=>out
  | x_2 :: xs,k_2,out=>let r5:=Xa out x_2 band
    cond (!r5) (
      Xp band xs (k_2 + 1) (out ++ ([x_2]))) (
      Xp band xs (k_2 + 1) out)
def Yr (l:List Zf) (band:Int):List Zf × Int :=
  cond (decide ((l.length:Int) > 128)) (
    ([],2)) (
    Sum.elim (fun _ =>
      let r2:=J3 band
      cond r2 (
        ([],4)) (
        let r3:=Yp l
        let r4:=VG r3
        Y3 (Xp band r4 0 ([]:List Zf)) (fun out_2 =>
          (out_2,0)))) (fun r=>r) (Jb l 0))
set_option maxHeartbeats 4000000 in
set_option maxRecDepth 100000 in
theorem BZ (A_l:Option Addr) (c_l:Nat) (l:List Zf) (band:Int) (w:World) (h_l:Rd w 6 A_l (l.map Zf.c)) (hc_l:l.length ≤ c_l):Calls Tryz.prog 37 #[.slice A_l l.length c_l,.int .i64 band] w (QK (Γ:=(Option Addr × Nat)) (cx w) (fun g=>.tuple #[.slice g.1 ((Yr l band).1.length) g.2,.int .i64 ((Yr l band).2)]) (fun g=>[.inr (Own g.1 g.2 42 6 (((Yr l band).1).map Zf.c))])):=by
  have s_l:=h_l.short;rw [List.length_map] at s_l
  refine Zk (vs:=[.slice A_l l.length c_l,.i band]) (w:=w) Tryz.func37 rfl Tryz.ntmps37 rfl (TC.sr (TL.nw 3 (fun b1=>.p0 b1) (fun b1=>Bk b1 #[.i band] 3) (fun b1=>{}) (fun b1=>TL.r 3 [] [(4,.slice none 0 0),(5,.i 0)] {} (TL.ns (TC.sr (TL.r 3 [] [(15,.b (decide ((l.length:Int) > 128)))] {} (TL.next rfl (TC.cond (decide ((l.length:Int) > 128)) rfl Kr (fun h1=>?_) (fun h1=>?_)))))))))
  · refine TC.sr (TL.r 2 [] [(4,.slice none 0 0),(5,.i 2)] {} (TL.next rfl (TC.ret (TE.rt ?_))))
    have e:Yr l band=([],2):=by unfold Yr;exact Zi h1 (rfl)
    refine TE.conv [Ow none 0 42 6 (([]:List Zf).map Zf.c),Bk b1 #[.i band] 3] (fun _ hM=>hM.emptyrow none 42 6) ?_
    rw [e]
    exact TE.retM (.inl rfl) (none,0) [] (.tuple #[.slice none 0 0,.i 2]) {} rfl (fun _ hM=>hM.sub (sb 1))
  · have q1_0:=(Zo h1)
    refine TC.sn (TC.seq (TC.sr (TL.r 3 [] [(16,.slice A_l l.length c_l),(17,.i (l.length:Int)),(18,.i 0)] {} (TL.next rfl ?_))))
    obtain ⟨R2,hR⟩:∃ R,R=Jb l 0:=⟨_,rfl⟩
    refine TC.cut (S:=Unit) (fun (_:Unit)=>[(0,.slice A_l l.length c_l),(3,.p0 b1)]) (fun (_:Unit)=>[Bk b1 #[.i band] 3]) (fun (_:Unit)=>R2=.inl ()) ?_ ?_
    · refine TC.block (TC.lw (X:=Nat) (fun k=>[(0,.slice A_l l.length c_l),(3,.p0 b1),(16,.slice A_l l.length c_l),(17,.i (l.length:Int)),(18,.i (k:Int))]) (fun k=>[Bk b1 #[.i band] 3]) (fun k=>l.length - k) (fun k=>k ≤ l.length ∧ R2=Jb (l.drop k) k) ?_ 0 ⟨Nat.zero_le _,hR⟩ Kr (sb 1))
      rintro k ⟨hk,hI⟩
      refine TC.sr (TL.r 1 [] [(19,.b (decide ((k:Int) < (l.length:Int))))] {} (TL.ns (TC.cond (decide ((k:Int) < (l.length:Int))) rfl Kr (fun h2=>?_) (fun h2=>?_))))
      · have hlt:=ltN h2
        obtain ⟨x,hx⟩:=elN hlt
        have hd:=drop_at hx
        refine TC.sn (TC.seq (TC.block (TC.sr (TL.v (sV (Instr.indexAt 52 (.slice A_l l.length c_l) (.i (k:Int)))) 20 (.pointer (some (Ix A_l (k * 6)))) (fun w hM=>Zr (h_l.sat hM) (by simp) Kr (by (try have e3_:r3.length=l.length:=(by rw [← hr3];rfl));exact sd) (by (try have e3_:r3.length=l.length:=(by rw [← hr3];rfl));exact sd)) {} (TL.v (sV (Instr.loadAt 42 (.pointer (some (Ix A_l (k * 6)))))) 21 (Zf.v x) (fun w hM=>Z6 (n:=6) (off:=0) (i:=k) (Zf.v x) (h_l.sat hM) (ZA hx) Kr Kr Kr) {} (TL.nw 7 (fun b2=>.p0 b2) (fun b2=>Bk b2 (Zf.c Zf.zero) 42) (fun b2=>{}) (fun b2=>TL.s 0 (Bk b2 (Zf.c x) 42) (fun _=>{}) (TL.nr (TL.r 1 [0] [(22,Zf.v x)] {} (TL.c 23 (Zy x) (fun r1=>.i r1) (fun w _=>Xl x w) {} (fun r1 hr1=>TL.r 3 [] [(8,.i r1)] {} (TL.nr (TL.r 2 [] [(25,.b (r1 != 0))] {} (TL.next rfl (TC.cond (r1 != 0) rfl Kr (fun h3=>?_) (fun h3=>?_))))))))))))))))
        · refine TC.sr (TL.r 3 [] [(4,.slice none 0 0),(5,.i r1)] {} (TL.next rfl (TC.ret (TE.rb (TE.rt (TE.rt (TE.rb (TE.rt (TE.rt ?_)))))))))
          have e:Yr l band=([],r1):=by subst hr1;unfold Yr;exact Zb h1 (X7 (hR.symm.trans (hI.trans (by rw [hd];exact Zi h3 (rfl)))) rfl)
          refine TE.conv [Ow none 0 42 6 (([]:List Zf).map Zf.c),Bk b2 (Zf.c x) 42,Bk b1 #[.i band] 3] (fun _ hM=>hM.emptyrow none 42 6) ?_
          rw [e]
          exact TE.retM (.inl rfl) (none,0) [] (.tuple #[.slice none 0 0,.i r1]) {} rfl (fun _ hM=>hM.sub (sb 1))
        · have q3_0:=(QG h3)
          exact TC.skip (TE.nb (TE.next (TC.region (TL.r 2 [] [(18,.i (w64 ((k:Int) + 1)))] {} (TL.done rfl (TE.rw 18 (.i (w64 ((k:Int) + 1))) (.i ((k + 1:Nat):Int)) Kr (ZD k (by (try have e3_:r3.length=l.length:=(by rw [← hr3];rfl));omega)) (TE.again (x:=k) (k + 1) ⟨by omega,hI.trans (by subst hr1;rw [hd];exact Zb h3 (rfl))⟩ (mN hlt) Kr (sb 2))))))))
      · have hd:=XL h2
        refine TC.exit (TE.et (TE.et (TE.exit_same ?_)))
        exact TE.cut () (hI.trans (by rw [hd];exact rfl)) Kr (sb 1)
    · intro _ hJ
      refine TE.next (TC.seq (TC.sr (TL.r 1 [0] [(28,.i band)] {} (TL.c 29 (J3 band) (fun r2=>.b r2) (fun w _=>UW band w) {} (fun r2 hr2=>TL.next rfl (TC.cond r2 rfl Kr (fun h4=>?_) (fun h4=>?_)))))))
      · refine TC.sr (TL.r 2 [] [(4,.slice none 0 0),(5,.i 4)] {} (TL.next rfl (TC.ret (TE.rt ?_))))
        have e:Yr l band=([],4):=by subst hr2;unfold Yr;exact Zb h1 (XI (hR.symm.trans hJ) (Zi h4 (rfl)))
        refine TE.conv [Ow none 0 42 6 (([]:List Zf).map Zf.c),Bk b1 #[.i band] 3] (fun _ hM=>hM.emptyrow none 42 6) ?_
        rw [e]
        exact TE.retM (.inl rfl) (none,0) [] (.tuple #[.slice none 0 0,.i 4]) {} rfl (fun _ hM=>hM.sub (sb 1))
      · refine TC.snr (TL.r 1 [] [(30,.slice A_l l.length c_l)] {} (TL.cn (Γ:=AN) 31 (Yp l) (fun r3 g=>.slice g.1 r3.length g.2) (fun r3 g=>[Ow g.1 g.2 42 6 (r3.map Zf.c)]) (fun w hM=>JB A_l c_l l w (h_l.sat hM) hc_l (by (try have e3_:r3.length=l.length:=(by rw [← hr3];rfl));exact sg)) {} (fun r3 hr3=>?_)))
        rintro ⟨A,c⟩
        refine TL.know (fun w hM=>hM.short_at 0 rfl) (fun s_r3_0=>TL.r 3 [] [(9,.slice A r3.length c)] {} (TL.nr (TL.r 1 [] [(32,.slice A r3.length c)] {} (TL.callM (Γ:=(List Zf)) (fun _=>.tuple #[]) (fun g=>[.inr (X8 (g.length=r3.length ∧ g=VG r3)),Ow A c 42 6 (g.map Zf.c)]) [Ow A c 42 6 (r3.map Zf.c)] [Bk b1 #[.i band] 3] (some 33) (fun _=>[(3,.p0 b1),(9,.slice A r3.length c)]) (fun w hM=>Cd A c r3 w hM.pass) Kr (fun g=>Kr) ?_))))
        rintro r4
        refine TL.conv [.inr (X8 (r4.length=r3.length ∧ r4=VG r3)),Ow A c 42 6 (r4.map Zf.c),Bk b1 #[.i band] 3] (fun _ hM=>hM) (TL.know (fun w hM=>hM.fact_at 0 rfl) (fun hp_sortSp=>TL.forget [Ow A c 42 6 (r4.map Zf.c),Bk b1 #[.i band] 3] (.cons _ (List.Sublist.refl _)) ?_))
        have hl_r4:r4.length=r3.length:=hp_sortSp.1
        refine TL.rw 9 (.slice A r3.length c) (.slice A r4.length c) Kr (by rw [hl_r4]) ?_
        have hr4:VG r3=r4:=(hp_sortSp.2).symm
        refine TL.nr (TL.r 1 [] [(10,.slice none 0 0)] {} (TL.ns (TC.sr (TL.r 3 [] [(34,.slice A r4.length c),(35,.i (r4.length:Int)),(36,.i 0)] {} (TL.next rfl (TC.conv [Ow none 0 42 6 (([]:List Zf).map Zf.c),Ow A c 42 6 (r4.map Zf.c),Bk b1 #[.i band] 3] (fun _ hM=>hM.emptyrow none 42 6) ?_))))))
        obtain ⟨R6,hR_2⟩:∃ R,R=Xp band r4 0 ([]:List Zf):=⟨_,rfl⟩
        refine TC.cut (S:=(List Zf) × (Option Addr) × Nat) (fun (out_2,A_out_2,c_out_2)=>[(10,.slice A_out_2 out_2.length c_out_2)]) (fun (out_2,A_out_2,c_out_2)=>[Ow A_out_2 c_out_2 42 6 (out_2.map Zf.c)]) (fun (out_2,A_out_2,c_out_2)=>R6=out_2 ∧ out_2.length ≤ r4.length) ?_ ?_
        · refine TC.block (TC.lw (X:=Nat × (List Zf) × (Option Addr) × Nat) (fun (k_2,out,A_out,c_out)=>[(3,.p0 b1),(10,.slice A_out out.length c_out),(34,.slice A r4.length c),(35,.i (r4.length:Int)),(36,.i (k_2:Int))]) (fun (k_2,out,A_out,c_out)=>[Ow A_out c_out 42 6 (out.map Zf.c),Ow A c 42 6 (r4.map Zf.c),Bk b1 #[.i band] 3]) (fun (k_2,out,A_out,c_out)=>r4.length - k_2) (fun (k_2,out,A_out,c_out)=>k_2 ≤ r4.length ∧ R6=Xp band (r4.drop k_2) k_2 out ∧ out.length ≤ k_2) ?_ (0,([]:List Zf),none,0) ⟨Nat.zero_le _,hR_2,sz⟩ Kr (sb 7))
          rintro ⟨k_2,out,A_out,c_out⟩ ⟨hk_2,hI_2,hl_out⟩
          refine TC.sr (TL.r 1 [] [(37,.b (decide ((k_2:Int) < (r4.length:Int))))] {} (TL.ns (TC.cond (decide ((k_2:Int) < (r4.length:Int))) rfl Kr (fun h5=>?_) (fun h5=>?_))))
          · have hlt_2:=ltN h5
            obtain ⟨x_2,hx_2⟩:=elN hlt_2
            have hd_2:=drop_at hx_2
            refine TC.sn (TC.seq (TC.block (TC.sr (TL.v (sV (Instr.indexAt 52 (.slice A r4.length c) (.i (k_2:Int)))) 38 (.pointer (some (Ix A (k_2 * 6)))) (fun w hM=>Zr (hM.rd_at 1 rfl) (by simp) Kr (by (try have e3_:r3.length=l.length:=(by rw [← hr3];rfl));exact sd) (by (try have e3_:r3.length=l.length:=(by rw [← hr3];rfl));exact sd)) {} (TL.v (sV (Instr.loadAt 42 (.pointer (some (Ix A (k_2 * 6)))))) 39 (Zf.v x_2) (fun w hM=>Z6 (n:=6) (off:=0) (i:=k_2) (Zf.v x_2) (hM.rd_at 1 rfl) (ZA hx_2) Kr Kr Kr) {} (TL.nw 12 (fun b3=>.p0 b3) (fun b3=>Bk b3 (Zf.c Zf.zero) 42) (fun b3=>{}) (fun b3=>TL.s 0 (Bk b3 (Zf.c x_2) 42) (fun _=>{}) (TL.nr (TL.r 2 [] [(40,.slice A_out out.length c_out),(41,.func (.func 87) #[] #[.p0 b3,.p0 b1])] {} (TL.c 42 (Xa out x_2 band) (fun r5=>.b r5) (fun w hM=>Us A_out c_out out ⟨b3,0,none⟩ x_2 ⟨b1,0,none⟩ band w (hM.rd_at 1 rfl) (hM.le_at 1 rfl) (Rd.lit hM 0 _ rfl Kr Kr Kr) (Rd.lit hM 3 _ rfl Kr Kr Kr)) {} (fun r5 hr5=>TL.r 4 [] [(43,.b (!r5))] {} (TL.next rfl (TC.cond (!r5) rfl Kr (fun h6=>?_) (fun h6=>?_))))))))))))))
            · refine TC.region (TL.r 2 [0] [(44,.slice A_out out.length c_out),(45,Zf.v x_2)] {} (TL.nw 46 (fun b4=>.slice (Pa b4) 1 1) (fun b4=>Bk b4 (Zf.c x_2) 42) (fun b4=>{}) (fun b4=>TL.os (Γ:=AN) (sV (Builtin.append_ #[52,52] 52 #[.slice A_out out.length c_out,.slice (Pa b4) 1 1])) 47 (fun g=>.slice g.1 (out ++ ([x_2])).length g.2) 2 (fun g=>Ow g.1 g.2 42 6 ((out ++ ([x_2])).map Zf.c)) (Qq (bytes:=48) 52 2 ([x_2]) Kr rfl rfl Zf.one rfl (fun w hM=>(Rd.lit hM 0 _ rfl Kr Kr Kr)) rfl (by (try have e3_:r3.length=l.length:=(by rw [← hr3];rfl));exact sa)) {} ?_)))
              rintro ⟨A_2,c_2⟩
              exact TL.r 5 [] [(10,.slice A_2 ((out ++ ([x_2])).length) c_2)] {} (TL.done rfl (TE.nb (TE.next (TC.region (TL.r 2 [] [(36,.i (w64 ((k_2:Int) + 1)))] {} (TL.done rfl (TE.rw 36 (.i (w64 ((k_2:Int) + 1))) (.i ((k_2 + 1:Nat):Int)) Kr (ZD k_2 (by (try have e3_:r3.length=l.length:=(by rw [← hr3];rfl));omega)) (TE.again (x:=(k_2,out,A_out,c_out)) (k_2 + 1,(out ++ ([x_2])),A_2,c_2) ⟨by omega,hI_2.trans (by subst hr2 hr3 hr4 hr5;rw [hd_2];exact Zi h6 (rfl)),(by (try have e3_:r3.length=l.length:=(by rw [← hr3];rfl));exact sl)⟩ (mN hlt_2) Kr (sb 28)))))))))
            · exact TC.skip (TE.nb (TE.next (TC.region (TL.r 2 [] [(36,.i (w64 ((k_2:Int) + 1)))] {} (TL.done rfl (TE.rw 36 (.i (w64 ((k_2:Int) + 1))) (.i ((k_2 + 1:Nat):Int)) Kr (ZD k_2 (by (try have e3_:r3.length=l.length:=(by rw [← hr3];rfl));omega)) (TE.again (x:=(k_2,out,A_out,c_out)) (k_2 + 1,out,A_out,c_out) ⟨by omega,hI_2.trans (by subst hr2 hr3 hr4 hr5;rw [hd_2];exact Zb h6 (rfl)),(by (try have e3_:r3.length=l.length:=(by rw [← hr3];rfl));exact sl)⟩ (mN hlt_2) Kr (sb 14))))))))
          · have hd_2:=XL h5
            refine TC.exit (TE.et (TE.et (TE.exit_same ?_)))
            exact TE.cut (out,A_out,c_out) (⟨hI_2.trans (by subst hr2 hr3 hr4;rw [hd_2];exact rfl),(by (try have e3_:r3.length=l.length:=(by rw [← hr3];rfl));exact sl)⟩) Kr (sb 1)
        · rintro ⟨out_2,A_out_2,c_out_2⟩ ⟨hJ_2,hl_out_2⟩
          refine TE.nr (TL.r 3 [] [(4,.slice A_out_2 out_2.length c_out_2),(5,.i 0)] {} (TL.next rfl (TC.ret ?_)))
          have e:Yr l band=(out_2,0):=by subst hr2 hr3 hr4;unfold Yr;exact Zb h1 (XI (hR.symm.trans hJ) (Zb h4 (Ye (hR_2.symm.trans hJ_2) (rfl))))
          rw [e]
          exact TE.retM (.inl rfl) (A_out_2,c_out_2) [] (.tuple #[.slice A_out_2 out_2.length c_out_2,.i 0]) {} rfl (fun _ hM=>hM.sub (sb 1))
end Go.Sky
end
section
namespace Go.Sky
open Go Go.Eng Go.Proofs
def YS (t:Track) (s:Zf) (band:Int):Bool × Int :=
  let r1:=YE t
  cond (r1 != 0) (
    (false,r1)) (
    let r2:=Zy s
    cond (r2 != 0) (
      (false,r2)) (
      cond ((decide (band < 0)) || (decide (band > 60000))) (
        (false,4)) (
        cond (t.Time != s.Time) (
          (false,12)) (
          let r3:=ZQ t.At s.At (w64 (t.Radius + s.Error))
          cond (r3 && (decide ((WE (w64 (t.Height - s.Height)) (w64 (s.Height - t.Height))) ≤ band))) (
            cond (t.Code == s.Code) (
              (true,0)) (
              cond (t.Code == (-1)) (
                (true,0)) (
                (s.Code == (-1),0)))) (
            (false,0))))))
set_option maxHeartbeats 4000000 in
set_option maxRecDepth 100000 in
theorem FB (t:Track) (s:Zf) (band:Int) (w:World):Calls Tryz.prog 107 #[Track.v t,Zf.v s,.int .i64 band] w (Ret w (.tuple #[.bool ((YS t s band).1),.int .i64 ((YS t s band).2)])):=by
  refine Zk (vs:=[Track.v t,Zf.v s,.i band]) (w:=w) Tryz.func107 rfl Tryz.ntmps107 rfl (TC.sr (TL.nw 3 (fun b1=>.p0 b1) (fun b1=>Bk b1 (Track.c t) 40) (fun b1=>{}) (fun b1=>TL.nw 4 (fun b2=>.p0 b2) (fun b2=>Bk b2 (Zf.c s) 42) (fun b2=>{}) (fun b2=>TL.r 4 [] [(6,.b false),(7,.i 0)] {} (TL.ns (TC.sr (TL.r 1 [1] [(10,Track.v t)] {} (TL.c 11 (YE t) (fun r1=>.i r1) (fun w _=>KU t w) {} (fun r1 hr1=>TL.r 3 [] [(8,.i r1)] {} (TL.nr (TL.r 2 [] [(13,.b (r1 != 0))] {} (TL.next rfl (TC.cond (r1 != 0) rfl Kr (fun h1=>?_) (fun h1=>?_))))))))))))))
  · exact TC.sr (TL.r 3 [] [(6,.b false),(7,.i r1)] {} (TL.next rfl (TC.ret (TE.rt (TE.ret [] (.tuple #[.b false,.i r1]) {} (by unfold YS;refine eS (a:=(false,r1)) (fun (z:Bool × Int)=>(.tuple #[.b z.1,.i z.2]:Value)) ?_;subst hr1;exact Zi h1 (rfl)))))))
  · refine TC.sn (TC.seq (TC.sr (TL.r 1 [0] [(15,Zf.v s)] {} (TL.c 16 (Zy s) (fun r2=>.i r2) (fun w _=>Xl s w) {} (fun r2 hr2=>TL.r 3 [] [(9,.i r2)] {} (TL.nr (TL.r 2 [] [(18,.b (r2 != 0))] {} (TL.next rfl (TC.cond (r2 != 0) rfl Kr (fun h2=>?_) (fun h2=>?_))))))))))
    · exact TC.sr (TL.r 3 [] [(6,.b false),(7,.i r2)] {} (TL.next rfl (TC.ret (TE.rt (TE.ret [] (.tuple #[.b false,.i r2]) {} (by unfold YS;refine eS (a:=(false,r2)) (fun (z:Bool × Int)=>(.tuple #[.b z.1,.i z.2]:Value)) ?_;subst hr1 hr2;exact Zb h1 (Zi h2 (rfl))))))))
    · refine TC.sn (TC.seq (TC.block (TC.sr (TL.r 3 [] [(23,.b (decide (band < 0)))] {} (TL.j 23 (decide (band < 0)) 6 [] [] (fun β=>[(26,.b (β || (decide (band > 60000))))]) Kr {} {} (TL.r 7 [] [(20,.b ((decide (band < 0)) || (decide (band > 60000))))] {} (TL.next rfl (TC.cond ((decide (band < 0)) || (decide (band > 60000))) rfl Kr (fun h3=>?_) (fun h3=>?_)))))))))
      · refine TC.sr (TL.r 2 [] [(6,.b false),(7,.i 4)] {} (TL.next rfl (TC.ret (TE.rb (TE.rt ?_)))))
        exact TE.ret [] (.tuple #[.b false,.i 4]) {} (by unfold YS;refine eS (a:=(false,4)) (fun (z:Bool × Int)=>(.tuple #[.b z.1,.i z.2]:Value)) ?_;subst hr1 hr2;exact Zb h1 (Zb h2 (Zi h3 (rfl))))
      · refine TC.sr (TL.r 6 [1,0] [(27,.b (t.Time != s.Time))] {} (TL.next rfl (TC.cond (t.Time != s.Time) rfl Kr (fun h4=>?_) (fun h4=>?_))))
        · refine TC.sr (TL.r 2 [] [(6,.b false),(7,.i 12)] {} (TL.next rfl (TC.ret (TE.rb (TE.rt ?_)))))
          exact TE.ret [] (.tuple #[.b false,.i 12]) {} (by unfold YS;refine eS (a:=(false,12)) (fun (z:Bool × Int)=>(.tuple #[.b z.1,.i z.2]:Value)) ?_;subst hr1 hr2;exact Zb h1 (Zb h2 (Zb h3 (Zi h4 (rfl)))))
        · refine TC.skip (TE.nb (TE.nr (TL.r 9 [1,0,1,0] [(34,P.v t.At),(36,P.v s.At),(41,.i (w64 (t.Radius + s.Error)))] {} (TL.c 42 (ZQ t.At s.At (w64 (t.Radius + s.Error))) (fun r3=>.b r3) (fun w _=>QH t.At s.At (w64 (t.Radius + s.Error)) w) {} (fun r3 hr3=>TL.r 11 [] [(43,.b r3)] {} (TL.j 43 r3 25 [1,0,0,1] [] (fun β=>[(57,.b (β && (decide ((WE (w64 (t.Height - s.Height)) (w64 (s.Height - t.Height))) ≤ band))))]) Kr {} {} (TL.r 26 [] [(58,.b (r3 && (decide ((WE (w64 (t.Height - s.Height)) (w64 (s.Height - t.Height))) ≤ band))))] {} (TL.split 58 (r3 && (decide ((WE (w64 (t.Height - s.Height)) (w64 (s.Height - t.Height))) ≤ band))) Kr (fun h5=>?_) (fun h5=>?_)))))))))
          · refine TL.r 32 [1,0] [(64,.b (t.Code == s.Code))] {} (TL.split 64 (t.Code == s.Code) Kr (fun h6=>?_) (fun h6=>?_))
            · exact TL.r 44 [] [(6,.b true),(7,.i 0)] {} (TL.next rfl (TC.ret (TE.ret [] (.tuple #[.b true,.i 0]) {} (by unfold YS;refine eS (a:=(true,0)) (fun (z:Bool × Int)=>(.tuple #[.b z.1,.i z.2]:Value)) ?_;subst hr1 hr2 hr3;exact Zb h1 (Zb h2 (Zb h3 (Zb h4 (Zi h5 (Zi h6 (rfl))))))))))
            · refine TL.r 37 [1] [(69,.b (t.Code == (-1)))] {} (TL.split 69 (t.Code == (-1)) Kr (fun h7=>?_) (fun h7=>?_))
              · exact TL.r 44 [] [(6,.b true),(7,.i 0)] {} (TL.next rfl (TC.ret (TE.ret [] (.tuple #[.b true,.i 0]) {} (by unfold YS;refine eS (a:=(true,0)) (fun (z:Bool × Int)=>(.tuple #[.b z.1,.i z.2]:Value)) ?_;subst hr1 hr2 hr3;exact Zb h1 (Zb h2 (Zb h3 (Zb h4 (Zi h5 (Zb h6 (Zi h7 (rfl)))))))))))
              · exact TL.r 44 [0] [(6,.b (s.Code == (-1))),(7,.i 0)] {} (TL.next rfl (TC.ret (TE.ret [] (.tuple #[.b (s.Code == (-1)),.i 0]) {} (by unfold YS;refine eS (a:=(s.Code == (-1),0)) (fun (z:Bool × Int)=>(.tuple #[.b z.1,.i z.2]:Value)) ?_;subst hr1 hr2 hr3;exact Zb h1 (Zb h2 (Zb h3 (Zb h4 (Zi h5 (Zb h6 (Zb h7 (rfl)))))))))))
          · exact TL.r 44 [] [(6,.b false),(7,.i 0)] {} (TL.next rfl (TC.ret (TE.ret [] (.tuple #[.b false,.i 0]) {} (by unfold YS;refine eS (a:=(false,0)) (fun (z:Bool × Int)=>(.tuple #[.b z.1,.i z.2]:Value)) ?_;subst hr1 hr2 hr3;exact Zb h1 (Zb h2 (Zb h3 (Zb h4 (Zb h5 (rfl)))))))))
def Qn (band:Int) (x:Track):List Zf → Nat → (List Int) → ((List Int) ⊕ ((List (List Int)) × Int))
  | [],_,row=>.inl row
  | x_2 :: xs,k_2,row=>let r1:=YS x x_2 band
    cond (r1.2 != 0) (
      .inr ([],r1.2)) (
      cond r1.1 (
        let r2:=ZV x.At x_2.At
        Qn band x xs (k_2 + 1) ((row.set k_2 (-1)).set k_2 (Ym (w64 (r2.tdiv 10000)) 1073741824))) (
        Qn band x xs (k_2 + 1) (row.set k_2 (-1))))
def QC (spots:List Zf) (band:Int):List Track → Nat → (List (List Int)) → ((List (List Int)) ⊕ ((List (List Int)) × Int))
  | [],_,out=>.inl out
  | x :: xs,k,out=>Sum.elim (fun row_2 =>
      QC spots band xs (k + 1) (out ++ [row_2])) (fun r=>.inr r) (Qn band x spots 0 (List.replicate ((spots.length:Int).toNat) (0:Int)))
def YY (tracks:List Track) (spots:List Zf) (band:Int):List (List Int) × Int :=
  cond ((decide ((tracks.length:Int) > 32)) || (decide ((spots.length:Int) > 32))) (
    ([],2)) (
    Sum.elim (fun out_2 =>
      (out_2,0)) (fun r=>r) (QC spots band tracks 0 ([]:List (List Int))))
set_option maxHeartbeats 4000000 in
set_option maxRecDepth 100000 in
theorem Da (A_tracks:Option Addr) (c_tracks:Nat) (tracks:List Track) (A_spots:Option Addr) (c_spots:Nat) (spots:List Zf) (band:Int) (w:World) (h_tracks:Rd w 13 A_tracks (tracks.map Track.c)) (_hc_tracks:tracks.length ≤ c_tracks) (h_spots:Rd w 6 A_spots (spots.map Zf.c)) (_hc_spots:spots.length ≤ c_spots):Calls Tryz.prog 51 #[.slice A_tracks tracks.length c_tracks,.slice A_spots spots.length c_spots,.int .i64 band] w (QK (Γ:=((Option Addr × Nat) × List (Sl Int))) (cx w) (fun g=>.tuple #[.slice g.1.1 ((YY tracks spots band).1.length) g.1.2,.int .i64 ((YY tracks spots band).2)]) (fun g=>[.inr (X8 ((YY tracks spots band).1=g.2.map Sl.l)),.inr (Own g.1.1 g.1.2 22 1 (g.2.map Sl.c)),.inr (Bag 3 1 ic g.2)])):=by
  have s_tracks:=h_tracks.short;rw [List.length_map] at s_tracks
  have s_spots:=h_spots.short;rw [List.length_map] at s_spots
  refine Zk (vs:=[.slice A_tracks tracks.length c_tracks,.slice A_spots spots.length c_spots,.i band]) (w:=w) Tryz.func51 rfl Tryz.ntmps51 rfl (TC.sr (TL.r 2 [] [(6,.slice none 0 0),(7,.i 0)] {} (TL.ns (TC.sr (TL.r 4 [] [(19,.b (decide ((tracks.length:Int) > 32)))] {} (TL.j 19 (decide ((tracks.length:Int) > 32)) 8 [] [] (fun β=>[(23,.b (β || (decide ((spots.length:Int) > 32))))]) Kr {} {} (TL.next rfl (TC.cond ((decide ((tracks.length:Int) > 32)) || (decide ((spots.length:Int) > 32))) rfl Kr (fun h1=>?_) (fun h1=>?_)))))))))
  · refine TC.sr (TL.r 2 [] [(6,.slice none 0 0),(7,.i 2)] {} (TL.next rfl (TC.ret (TE.rt ?_))))
    have e:YY tracks spots band=([],2):=by unfold YY;exact Zi h1 (rfl)
    refine TE.conv [Ow none 0 22 1 (([]:List (Sl Int)).map Sl.c),.inr (Bag 3 1 ic ([]:List (Sl Int)))] (fun _ hM=>(hM.bag_nil 3 1 ic).emptyrow none 22 1) ?_
    rw [e]
    exact TE.retM (.inl rfl) ((none,0),([]:List (Sl Int))) [] (.tuple #[.slice none 0 0,.i 2]) {} rfl (fun _ hM=>(hM.sub (sb 3)).fact rfl)
  · have q1_0:=(Zo (Zt h1))
    have q1_1:=(Zo (ZR h1))
    refine TC.snr (TL.r 1 [] [(8,.slice none 0 0)] {} (TL.ns (TC.sr (TL.r 3 [] [(24,.slice A_tracks tracks.length c_tracks),(25,.i (tracks.length:Int)),(26,.i 0)] {} (TL.next rfl (TC.conv [Ow none 0 22 1 (([]:List (Sl Int)).map Sl.c),.inr (Bag 3 1 ic ([]:List (Sl Int)))] (fun _ hM=>(hM.bag_nil 3 1 ic).emptyrow none 22 1) ?_))))))
    obtain ⟨R3,hR⟩:∃ R,R=QC spots band tracks 0 ([]:List (List Int)):=⟨_,rfl⟩
    refine TC.cut (S:=(List (List Int)) × (Option Addr) × Nat × (List (Sl Int))) (fun (out_2,A_out_2,c_out_2,o_out_2)=>[(8,.slice A_out_2 out_2.length c_out_2)]) (fun (out_2,A_out_2,c_out_2,o_out_2)=>[Ow A_out_2 c_out_2 22 1 (o_out_2.map Sl.c),.inr (Bag 3 1 ic o_out_2)]) (fun (out_2,A_out_2,c_out_2,o_out_2)=>R3=.inl out_2 ∧ out_2.length ≤ tracks.length ∧ (out_2=o_out_2.map Sl.l)) ?_ ?_
    · refine TC.block (TC.lw (X:=Nat × (List (List Int)) × (Option Addr) × Nat × (List (Sl Int))) (fun (k,out,A_out,c_out,o_out)=>[(1,.slice A_spots spots.length c_spots),(2,.i band),(8,.slice A_out out.length c_out),(24,.slice A_tracks tracks.length c_tracks),(25,.i (tracks.length:Int)),(26,.i (k:Int))]) (fun (k,out,A_out,c_out,o_out)=>[Ow A_out c_out 22 1 (o_out.map Sl.c),.inr (Bag 3 1 ic o_out)]) (fun (k,out,A_out,c_out,o_out)=>tracks.length - k) (fun (k,out,A_out,c_out,o_out)=>k ≤ tracks.length ∧ R3=QC spots band (tracks.drop k) k out ∧ out.length ≤ k ∧ (out=o_out.map Sl.l)) ?_ (0,([]:List (List Int)),none,0,([]:List (Sl Int))) ⟨Nat.zero_le _,hR,sz,rfl⟩ Kr (sb 3))
      rintro ⟨k,out,A_out,c_out,o_out⟩ ⟨hk,hI,hl_out,hl_he_out⟩
      refine TC.sr (TL.r 1 [] [(27,.b (decide ((k:Int) < (tracks.length:Int))))] {} (TL.ns (TC.cond (decide ((k:Int) < (tracks.length:Int))) rfl Kr (fun h2=>?_) (fun h2=>?_))))
      · have hlt:=ltN h2
        obtain ⟨x,hx⟩:=elN hlt
        have hd:=drop_at hx
        refine TC.sn (TC.seq (TC.block (TC.sr (TL.v (sV (Instr.indexAt 57 (.slice A_tracks tracks.length c_tracks) (.i (k:Int)))) 28 (.pointer (some (Ix A_tracks (k * 13)))) (fun w hM=>Zr (h_tracks.sat hM) (by simp) Kr sd sd) {} (TL.v (sV (Instr.loadAt 40 (.pointer (some (Ix A_tracks (k * 13)))))) 29 (Track.v x) (fun w hM=>Z6 (n:=13) (off:=0) (i:=k) (Track.v x) (h_tracks.sat hM) (ZA hx) Kr Kr Kr) {} (TL.nw 10 (fun b1=>.p0 b1) (fun b1=>Bk b1 (Track.c Track.zero) 40) (fun b1=>{}) (fun b1=>TL.s 0 (Bk b1 (Track.c x) 40) (fun _=>{}) (TL.nr (TL.r 2 [] [(31,.i (spots.length:Int))] {} (TL.on (Γ:=AN) (sV (Instr.makeSlice 22 (.i (spots.length:Int)) (.i (spots.length:Int)))) 32 (fun g=>.slice g.1 (List.replicate ((spots.length:Int).toNat) (0:Int)).length g.2) (fun g=>Ow g.1 g.2 3 1 ((List.replicate ((spots.length:Int).toNat) (0:Int)).map ic)) (JS (P:=Tryz.prog) (c:=ic) (t:=22) (e:=3) (sz:=1) (bytes:=8) 0 .i64 .i64 ((spots.length:Int).toNat) Kr Kr sd sd) {} ?_))))))))))
        rintro ⟨A,c⟩
        refine TL.r 4 [] [(11,.slice A ((List.replicate ((spots.length:Int).toNat) (0:Int)).length) c)] {} (TL.ns (TC.sr (TL.r 3 [] [(33,.slice A_spots spots.length c_spots),(34,.i (spots.length:Int)),(35,.i 0)] {} (TL.next rfl ?_))))
        obtain ⟨R5,hR_2⟩:∃ R,R=Qn band x spots 0 (List.replicate ((spots.length:Int).toNat) (0:Int)):=⟨_,rfl⟩
        refine TC.cut (S:=(List Int)) (fun row_2=>[(1,.slice A_spots spots.length c_spots),(2,.i band),(8,.slice A_out out.length c_out),(11,.slice A row_2.length c),(24,.slice A_tracks tracks.length c_tracks),(25,.i (tracks.length:Int)),(26,.i (k:Int))]) (fun row_2=>[Ow A c 3 1 (row_2.map ic),Ow A_out c_out 22 1 (o_out.map Sl.c),.inr (Bag 3 1 ic o_out)]) (fun row_2=>R5=.inl row_2 ∧ row_2.length=((spots.length:Int).toNat)) ?_ ?_
        · refine TC.block (TC.lw (X:=Nat × (List Int)) (fun (k_2,row)=>[(1,.slice A_spots spots.length c_spots),(2,.i band),(8,.slice A_out out.length c_out),(10,.p0 b1),(11,.slice A row.length c),(24,.slice A_tracks tracks.length c_tracks),(25,.i (tracks.length:Int)),(26,.i (k:Int)),(33,.slice A_spots spots.length c_spots),(34,.i (spots.length:Int)),(35,.i (k_2:Int))]) (fun (k_2,row)=>[Ow A c 3 1 (row.map ic),Bk b1 (Track.c x) 40,Ow A_out c_out 22 1 (o_out.map Sl.c),.inr (Bag 3 1 ic o_out)]) (fun (k_2,row)=>spots.length - k_2) (fun (k_2,row)=>k_2 ≤ spots.length ∧ R5=Qn band x (spots.drop k_2) k_2 row ∧ row.length=((spots.length:Int).toNat)) ?_ (0,(List.replicate ((spots.length:Int).toNat) (0:Int))) ⟨Nat.zero_le _,hR_2,sz⟩ Kr (sb 15))
          rintro ⟨k_2,row⟩ ⟨hk_2,hI_2,hl_row⟩
          refine TC.sr (TL.r 1 [] [(36,.b (decide ((k_2:Int) < (spots.length:Int))))] {} (TL.ns (TC.cond (decide ((k_2:Int) < (spots.length:Int))) rfl Kr (fun h3=>?_) (fun h3=>?_))))
          · have hlt_2:=ltN h3
            obtain ⟨x_2,hx_2⟩:=elN hlt_2
            have hd_2:=drop_at hx_2
            refine TC.sn (TC.seq (TC.block (TC.sr (TL.r 1 [] [(37,.i (k_2:Int))] {} (TL.v (sV (Instr.indexAt 52 (.slice A_spots spots.length c_spots) (.i (k_2:Int)))) 38 (.pointer (some (Ix A_spots (k_2 * 6)))) (fun w hM=>Zr (h_spots.sat hM) (by simp) Kr sd sd) {} (TL.v (sV (Instr.loadAt 42 (.pointer (some (Ix A_spots (k_2 * 6)))))) 39 (Zf.v x_2) (fun w hM=>Z6 (n:=6) (off:=0) (i:=k_2) (Zf.v x_2) (h_spots.sat hM) (ZA hx_2) Kr Kr Kr) {} (TL.nw 13 (fun b2=>.p0 b2) (fun b2=>Bk b2 (Zf.c Zf.zero) 42) (fun b2=>{}) (fun b2=>TL.r 5 [] [(12,.i (k_2:Int))] {} (TL.s 0 (Bk b2 (Zf.c x_2) 42) (fun _=>{}) (TL.nr (TL.r 3 [2,0] [(41,Track.v x),(42,Zf.v x_2),(43,.i band)] {} (TL.c 44 (YS x x_2 band) (fun r1=>.tuple #[.b r1.1,.i r1.2]) (fun w _=>FB x x_2 band w) {} (fun r1 hr1=>TL.r 9 [] [(14,.b r1.1),(15,.i r1.2)] {} (TL.ns (TC.sr (TL.r 2 [] [(48,.b (r1.2 != 0))] {} (TL.next rfl (TC.cond (r1.2 != 0) rfl Kr (fun h4=>?_) (fun h4=>?_)))))))))))))))))))
            · refine TC.sr (TL.r 3 [] [(6,.slice none 0 0),(7,.i r1.2)] {} (TL.next rfl (TC.ret (TE.rt (TE.rb (TE.rt (TE.rt (TE.rb (TE.rt (TE.rt (TE.rb (TE.rt (TE.rt (TE.rb (TE.rt (TE.rt ?_))))))))))))))))
              have e:YY tracks spots band=([],r1.2):=by subst hr1;unfold YY;exact Zb h1 (X7 (hR.symm.trans (hI.trans (by rw [hd];exact X7 (hR_2.symm.trans (hI_2.trans (by rw [hd_2];exact Zi h4 (rfl)))) rfl))) rfl)
              refine TE.conv [Ow none 0 22 1 (([]:List (Sl Int)).map Sl.c),.inr (Bag 3 1 ic ([]:List (Sl Int))),Bk b2 (Zf.c x_2) 42,Ow A c 3 1 (row.map ic),Bk b1 (Track.c x) 40,Ow A_out c_out 22 1 (o_out.map Sl.c),.inr (Bag 3 1 ic o_out)] (fun _ hM=>(hM.bag_nil 3 1 ic).emptyrow none 22 1) ?_
              rw [e]
              exact TE.retM (.inl rfl) ((none,0),([]:List (Sl Int))) [] (.tuple #[.slice none 0 0,.i r1.2]) {} rfl (fun _ hM=>(hM.sub (sb 3)).fact rfl)
            · have q4_0:=(QG h4)
              refine TC.snr (TL.r 2 [] [(50,.slice A row.length c),(51,.i (k_2:Int))] {} (TL.v (sV (Instr.indexAt 22 (.slice A row.length c) (.i (k_2:Int)))) 52 (.pointer (some (Ix A (k_2 * 1)))) (fun w hM=>Zr (hM.rd_at 1 rfl) (by simp) Kr sd sd) {} (TL.ks (Γ:=Unit) (sU (Instr.storeAt 3 (.pointer (some ((Ix A (k_2 * 1)).add 0))) (.i (-1)))) 1 (Ow A c 3 1 ((row.set k_2 (-1)).map ic)) (YB (n:=1) (off:=0) (.i (-1)) 1 ((row.set k_2 (-1)).map ic) rfl (ZA (getD_at _ _ 0 sd)) Kr Kr Kr Kr (Xj Kr)) Kr (TL.rw 11 (.slice A row.length c) (.slice A ((row.set k_2 (-1)).length) c) Kr (by simp only [List.length_set]) (TL.nr (TL.r 1 [] [(53,.b r1.1)] {} (TL.next rfl (TC.cond r1.1 rfl Kr (fun h5=>?_) (fun h5=>?_)))))))))
              · exact TC.region (TL.r 6 [2,0] [(54,.slice A ((row.set k_2 (-1)).length) c),(55,.i (k_2:Int)),(57,P.v x.At),(59,P.v x_2.At)] {} (TL.c 60 (ZV x.At x_2.At) (fun r2=>.i r2) (fun w _=>KB x.At x_2.At w) {} (fun r2 hr2=>TL.r 9 [] [(62,.i (Ym (w64 (r2.tdiv 10000)) 1073741824))] {} (TL.v (sV (Instr.indexAt 22 (.slice A ((row.set k_2 (-1)).length) c) (.i (k_2:Int)))) 63 (.pointer (some (Ix A (k_2 * 1)))) (fun w hM=>Zr (hM.rd_at 1 rfl) (by simp) Kr sd sd) {} (TL.ks (Γ:=Unit) (sU (Instr.storeAt 3 (.pointer (some ((Ix A (k_2 * 1)).add 0))) (.i (Ym (w64 (r2.tdiv 10000)) 1073741824)))) 1 (Ow A c 3 1 (((row.set k_2 (-1)).set k_2 (Ym (w64 (r2.tdiv 10000)) 1073741824)).map ic)) (YB (n:=1) (off:=0) (.i (Ym (w64 (r2.tdiv 10000)) 1073741824)) 1 (((row.set k_2 (-1)).set k_2 (Ym (w64 (r2.tdiv 10000)) 1073741824)).map ic) rfl (ZA (getD_at _ _ 0 sd)) Kr Kr Kr Kr (Xj Kr)) Kr (TL.rw 11 (.slice A ((row.set k_2 (-1)).length) c) (.slice A (((row.set k_2 (-1)).set k_2 (Ym (w64 (r2.tdiv 10000)) 1073741824)).length) c) Kr (by simp only [List.length_set]) (TL.done rfl (TE.nb (TE.next (TC.region (TL.r 2 [] [(35,.i (w64 ((k_2:Int) + 1)))] {} (TL.done rfl (TE.rw 35 (.i (w64 ((k_2:Int) + 1))) (.i ((k_2 + 1:Nat):Int)) Kr (ZD k_2 (by omega)) (TE.again (x:=(k_2,row)) (k_2 + 1,((row.set k_2 (-1)).set k_2 (Ym (w64 (r2.tdiv 10000)) 1073741824))) ⟨by omega,hI_2.trans (by subst hr1 hr2;rw [hd_2];exact Zb h4 (Zi h5 (rfl))),sl⟩ (mN hlt_2) Kr (sb 30)))))))))))))))
              · exact TC.skip (TE.nb (TE.next (TC.region (TL.r 2 [] [(35,.i (w64 ((k_2:Int) + 1)))] {} (TL.done rfl (TE.rw 35 (.i (w64 ((k_2:Int) + 1))) (.i ((k_2 + 1:Nat):Int)) Kr (ZD k_2 (by omega)) (TE.again (x:=(k_2,row)) (k_2 + 1,(row.set k_2 (-1))) ⟨by omega,hI_2.trans (by subst hr1;rw [hd_2];exact Zb h4 (Zb h5 (rfl))),sl⟩ (mN hlt_2) Kr (sb 30))))))))
          · have hd_2:=XL h3
            refine TC.exit (TE.et (TE.et (TE.exit_same ?_)))
            exact TE.cut row (⟨hI_2.trans (by rw [hd_2];exact rfl),sl⟩) Kr (sb 13)
        · rintro row_2 ⟨hJ_2,hl_row_2⟩
          refine TE.next (TC.region (TL.r 2 [] [(65,.slice A_out out.length c_out),(66,.slice A row_2.length c)] {} (TL.nw 67 (fun b3=>.slice (Pa b3) 1 1) (fun b3=>Bk b3 #[.slice A row_2.length c] 22) (fun b3=>{}) (fun b3=>TL.rw 65 (.slice A_out out.length c_out) (.slice A_out o_out.length c_out) Kr (by rw [JU hl_he_out]) (TL.opM (Γ:=AN) (sV (Builtin.append_ #[132,132] 132 #[.slice A_out o_out.length c_out,.slice (Pa b3) 1 1])) (some 68) (fun g=>.slice g.1 (o_out ++ [(⟨A,c,row_2⟩:Sl Int)]).length g.2) (fun g=>[Bk b3 #[.slice A row_2.length c] 22,Ow A c 3 1 (row_2.map ic),Ow g.1 g.2 22 1 ((o_out ++ [(⟨A,c,row_2⟩:Sl Int)]).map Sl.c),.inr (Bag 3 1 ic o_out)]) (fun g=>[(1,.slice A_spots spots.length c_spots),(2,.i band),(24,.slice A_tracks tracks.length c_tracks),(25,.i (tracks.length:Int)),(26,.i (k:Int)),(68,.slice g.1 ((o_out ++ [(⟨A,c,row_2⟩:Sl Int)]).length) g.2)]) (Qq (bytes:=24) 132 2 [(⟨A,c,row_2⟩:Sl Int)] Kr rfl rfl Sl.one rfl (fun w hM=>(Rd.lit hM 0 _ rfl Kr Kr Kr)) rfl (by have hz_:=JU hl_he_out;rw [← hz_];exact sa)) Kr (fun g=>Kr) ?_)))))
          rintro ⟨A_2,c_2⟩
          exact TL.rw 68 (.slice A_2 ((o_out ++ [(⟨A,c,row_2⟩:Sl Int)]).length) c_2) (.slice A_2 ((out ++ [row_2]).length) c_2) Kr (by rw [← JU (BK (s:=(⟨A,c,row_2⟩:Sl Int)) hl_he_out)]) (TL.conv [.inr (Bag 3 1 ic (o_out ++ [(⟨A,c,row_2⟩:Sl Int)])),Bk b3 #[.slice A row_2.length c] 22,Ow A_2 c_2 22 1 ((o_out ++ [(⟨A,c,row_2⟩:Sl Int)]).map Sl.c)] (fun _ hM=>Sat.bag_add (hM.perm (((List.Perm.cons _ (List.Perm.refl _)).trans (List.Perm.swap _ _ _)).trans (List.Perm.cons _ (((List.Perm.cons _ ((List.Perm.cons _ (List.Perm.refl _)).trans (List.Perm.swap _ _ _))).trans (List.Perm.swap _ _ _)).trans (List.Perm.cons _ (List.Perm.refl _))))))) (TL.conv [Ow A_2 c_2 22 1 ((o_out ++ [(⟨A,c,row_2⟩:Sl Int)]).map Sl.c),.inr (Bag 3 1 ic (o_out ++ [(⟨A,c,row_2⟩:Sl Int)])),Bk b3 #[.slice A row_2.length c] 22] (fun _ hM=>hM.perm (px [2,0,1])) (TL.r 5 [] [(8,.slice A_2 ((out ++ [row_2]).length) c_2)] {} (TL.done rfl (TE.nb (TE.next (TC.region (TL.r 2 [] [(26,.i (w64 ((k:Int) + 1)))] {} (TL.done rfl (TE.rw 26 (.i (w64 ((k:Int) + 1))) (.i ((k + 1:Nat):Int)) Kr (ZD k (by omega)) (TE.again (x:=(k,out,A_out,c_out,o_out)) (k + 1,(out ++ [row_2]),A_2,c_2,(o_out ++ [(⟨A,c,row_2⟩:Sl Int)])) ⟨by omega,hI.trans (by rw [hd];exact XI (hR_2.symm.trans hJ_2) (rfl)),sl,(BK (s:=(⟨A,c,row_2⟩:Sl Int)) hl_he_out)⟩ (mN hlt) Kr (sb 3))))))))))))
      · have hd:=XL h2
        refine TC.exit (TE.et (TE.et (TE.exit_same ?_)))
        exact TE.cut (out,A_out,c_out,o_out) (⟨hI.trans (by rw [hd];exact rfl),sl,hl_he_out⟩) Kr (sb 3)
    · rintro ⟨out_2,A_out_2,c_out_2,o_out_2⟩ ⟨hJ,hl_out_2,hl_he_out_2⟩
      refine TE.nr (TL.r 3 [] [(6,.slice A_out_2 out_2.length c_out_2),(7,.i 0)] {} (TL.next rfl (TC.ret ?_)))
      have e:YY tracks spots band=(out_2,0):=by unfold YY;exact Zb h1 (XI (hR.symm.trans hJ) (rfl))
      rw [e]
      exact TE.retM (.inl rfl) ((A_out_2,c_out_2),o_out_2) [] (.tuple #[.slice A_out_2 out_2.length c_out_2,.i 0]) {} rfl (fun _ hM=>(hM.sub (sb 3)).fact hl_he_out_2)
end Go.Sky
end
