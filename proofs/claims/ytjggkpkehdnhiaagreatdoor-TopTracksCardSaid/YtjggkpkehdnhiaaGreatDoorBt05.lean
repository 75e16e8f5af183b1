/- Lemmas toward the given statement (part 5 of 22): Tb Ka GrowNil Clear. Each theorem states its own conditions; nothing is assumed beyond them. -/
import Derived.Test.YtjggkpkehdnhiaaGreatDoorBt03
import Derived.Test.YtjggkpkehdnhiaaGreatDoorBt04
import Derived.Lib.AppendZerosOnto
import Derived.Test.YtjggkpkehdnhiaaGreatDoorBt02
section
namespace Go.Sky
open Go Go.Eng Go.Proofs
def J3 (band:Int):Bool :=
  (decide (band < 0)) || (decide (band > 60000))
set_option maxRecDepth 100000 in
theorem UW (band:Int) (w:World):Calls Tryz.prog 82 #[.int .i64 band] w (Ret w (.bool (J3 band))):=by
  exact Zk (vs:=[.i band]) (w:=w) Tryz.func82 rfl Tryz.ntmps82 rfl (TC.sr (TL.r 1 [] [(2,.b false)] {} (TL.nr (TL.r 3 [] [(5,.b (decide (band < 0)))] {} (TL.j 5 (decide (band < 0)) 6 [] [] (fun β=>[(8,.b (β || (decide (band > 60000))))]) Kr {} {} (TL.r 7 [] [(2,.b ((decide (band < 0)) || (decide (band > 60000))))] {} (TL.next rfl (TC.ret (TE.ret [] (.b ((decide (band < 0)) || (decide (band > 60000)))) {} (by unfold J3;refine eS (fun z=>(.b z:Value)) ?_;exact rfl))))))))))
def JM (a:Int) (b_:Int) (band:Int):Bool :=
  decide ((WE (w64 (a - b_)) (w64 (b_ - a))) ≤ band)
set_option maxRecDepth 100000 in
theorem Wc (a:Int) (b_:Int) (band:Int) (w:World):Calls Tryz.prog 145 #[.int .i64 a,.int .i64 b_,.int .i64 band] w (Ret w (.bool (JM a b_ band))):=by
  exact Zk (vs:=[.i a,.i b_,.i band]) (w:=w) Tryz.func145 rfl Tryz.ntmps145 rfl (TC.sr (TL.r 1 [] [(6,.b false)] {} (TL.nr (TL.r 10 [] [(6,.b (decide ((WE (w64 (a - b_)) (w64 (b_ - a))) ≤ band)))] {} (TL.next rfl (TC.ret (TE.ret [] (.b (decide ((WE (w64 (a - b_)) (w64 (b_ - a))) ≤ band))) {} (by unfold JM;refine eS (fun z=>(.b z:Value)) ?_;exact rfl))))))))
def Jo (a:Za) (b_:Za) (band:Int):Bool :=
  cond (a.Track.Time == b_.Track.Time) (
    let r1:=ZQ a.Track.At b_.Track.At (w64 (a.Track.Radius + b_.Track.Radius))
    cond r1 (
      let r2:=JM a.Track.Height b_.Track.Height band
      cond r2 (
        cond (a.Track.Code == b_.Track.Code) (
          true) (
          cond (a.Track.Code == (-1)) (
            true) (
            b_.Track.Code == (-1)))) (
        false)) (
      false)) (
    false)
set_option maxRecDepth 100000 in
theorem F8 (a:Za) (b_:Za) (band:Int) (w:World):Calls Tryz.prog 158 #[Za.v a,Za.v b_,.int .i64 band] w (Ret w (.bool (Jo a b_ band))):=by
  refine Zk (vs:=[Za.v a,Za.v b_,.i band]) (w:=w) Tryz.func158 rfl Tryz.ntmps158 rfl (TC.sr (TL.nw 3 (fun b1=>.p0 b1) (fun b1=>Bk b1 (Za.c a) 44) (fun b1=>{}) (fun b1=>TL.nw 4 (fun b2=>.p0 b2) (fun b2=>Bk b2 (Za.c b_) 44) (fun b2=>{}) (fun b2=>TL.r 3 [] [(6,.b false)] {} (TL.ns ?_)))))
  let Mr1_:Mem:=[Bk b2 (Za.c b_) 44,Bk b1 (Za.c a) 44]
  refine TC.plan (G:=Nat × Nat) (base:=[(2,.i band),(3,.p0 b1),(4,.p0 b2)]) (vals:=fun γ=>[.p0 b1,Track.v a.Track,.p0 b2,Track.v b_.Track,.p0 γ.1,.p0 γ.2,undef,undef]) (writes:=[4,5,6,7]) (mem:=fun bs γ=>match bs with | [x4_,x5_,x6_,x7_]=>(bif x6_ then [Bk γ.1 (Track.c a.Track) 40] else bif x4_ then [Bk γ.1 (Track.c Track.zero) 40] else []) ++ ((bif x7_ then [Bk γ.2 (Track.c b_.Track) 40] else bif x5_ then [Bk γ.2 (Track.c Track.zero) 40] else []) ++ (Mr1_)) | _=>[]) (0,0) (fun γ=>[(2,.i band),(7,.p0 γ.1),(8,.p0 γ.2)]) Kr Kr Kr Kr Kr (fun γ=>Kr) (fun _ hM=>hM) (fun γ=>Kr) ?_ ?_
  · skip
    exact Steps.run (i:=0) 4 [0,1,0,0] Mr1_ Kr Kr (fun S (γ:Nat × Nat) w hM=>by rw [mS4 rfl rfl rfl rfl] at hM;exact hM.sub (Zj (Zj (List.Sublist.refl _)))) Kr (fun (γ:Nat × Nat)=>{}) (Steps.op (i:=4) (Γ:=Nat) (fun g (γ:Nat × Nat)=>(g,γ.2)) (fun _=>[]) (fun b (γ:Nat × Nat)=>[Bk b (Track.c Track.zero) 40]) (fun S (γ:Nat × Nat)=>(bif S 7 then [Bk γ.2 (Track.c b_.Track) 40] else bif S 5 then [Bk γ.2 (Track.c Track.zero) 40] else []) ++ (Mr1_)) [4,6,7] (fun (γ:Nat × Nat)=>sV (Instr.alloc 40 true (.tuple #[]))) (some 7) (fun b (γ:Nat × Nat)=>.p0 b) (fun S (γ:Nat × Nat) hj hd hl=>by rw [mS4 hj rfl (hl 6 Kr) rfl];exact List.Perm.refl _) (fun S (γ:Nat × Nat) g hl=>by rw [mS4 (S:=upS S 4) (a0:=4) (a1:=5) (a2:=6) (a3:=7) rfl rfl (hl 6 Kr) rfl];exact (List.Perm.refl _).symm) (fun (γ:Nat × Nat) M' w hM=>Qx (v:=fun b=>.p0 b) (fun b M=>Kr) M' w hM) (fun (γ:Nat × Nat)=>Kr) (fun (γ:Nat × Nat) g=>Kr) Kr (fun (γ:Nat × Nat) g=>Kr) (Steps.op (i:=5) (Γ:=Nat) (fun g (γ:Nat × Nat)=>(γ.1,g)) (fun _=>[]) (fun b (γ:Nat × Nat)=>[Bk b (Track.c Track.zero) 40]) (fun S (γ:Nat × Nat)=>(bif S 6 then [Bk γ.1 (Track.c a.Track) 40] else bif S 4 then [Bk γ.1 (Track.c Track.zero) 40] else []) ++ (Mr1_)) [5,6,7] (fun (γ:Nat × Nat)=>sV (Instr.alloc 40 true (.tuple #[]))) (some 8) (fun b (γ:Nat × Nat)=>.p0 b) (fun S (γ:Nat × Nat) hj hd hl=>by rw [mS4 rfl hj rfl (hl 7 Kr)];exact (List.Perm.append_left _ (List.Perm.refl _)).trans (ZU _ _ _)) (fun S (γ:Nat × Nat) g hl=>by rw [mS4 (S:=upS S 5) (a0:=4) (a1:=5) (a2:=6) (a3:=7) rfl rfl rfl (hl 7 Kr)];exact ((List.Perm.append_left _ (List.Perm.refl _)).trans (ZU _ _ _)).symm) (fun (γ:Nat × Nat) M' w hM=>Qx (v:=fun b=>.p0 b) (fun b M=>Kr) M' w hM) (fun (γ:Nat × Nat)=>Kr) (fun (γ:Nat × Nat) g=>Kr) Kr (fun (γ:Nat × Nat) g=>Kr) (Steps.put (i:=6) (fun (γ:Nat × Nat)=>[Bk γ.1 (Track.c Track.zero) 40]) (fun (γ:Nat × Nat)=>[Bk γ.1 (Track.c a.Track) 40]) (fun S (γ:Nat × Nat)=>(bif S 7 then [Bk γ.2 (Track.c b_.Track) 40] else bif S 5 then [Bk γ.2 (Track.c Track.zero) 40] else []) ++ (Mr1_)) (fun (γ:Nat × Nat)=>sU (Instr.storeAt 40 (.p0 γ.1) (Track.v a.Track))) none (fun S (γ:Nat × Nat) hj hd hl=>by rw [mS4 (hd 4 Kr) rfl hj rfl];exact List.Perm.refl _) (fun S (γ:Nat × Nat) _=>(List.Perm.refl _).symm) (fun (γ:Nat × Nat) M' w hM=>QP (fun b M=>Kr) (fun b M=>Kr) M' w hM) (fun (γ:Nat × Nat)=>Kr) (fun (γ:Nat × Nat)=>Kr) (Steps.put (i:=7) (fun (γ:Nat × Nat)=>[Bk γ.2 (Track.c Track.zero) 40]) (fun (γ:Nat × Nat)=>[Bk γ.2 (Track.c b_.Track) 40]) (fun S (γ:Nat × Nat)=>(bif S 6 then [Bk γ.1 (Track.c a.Track) 40] else bif S 4 then [Bk γ.1 (Track.c Track.zero) 40] else []) ++ (Mr1_)) (fun (γ:Nat × Nat)=>sU (Instr.storeAt 40 (.p0 γ.2) (Track.v b_.Track))) none (fun S (γ:Nat × Nat) hj hd hl=>by rw [mS4 rfl (hd 5 Kr) rfl hj];exact (List.Perm.append_left _ (List.Perm.refl _)).trans (ZU _ _ _)) (fun S (γ:Nat × Nat) _=>((List.Perm.append_left _ (List.Perm.refl _)).trans (ZU _ _ _)).symm) (fun (γ:Nat × Nat) M' w hM=>QP (fun b M=>Kr) (fun b M=>Kr) M' w hM) (fun (γ:Nat × Nat)=>Kr) (fun (γ:Nat × Nat)=>Kr) (Steps.done Kr)))))
  · rintro ⟨b3,b4⟩
    refine TE.conv [Bk b3 (Track.c a.Track) 40,Bk b4 (Track.c b_.Track) 40,Bk b2 (Za.c b_) 44,Bk b1 (Za.c a) 44] (fun _ hM=>hM) (TE.nr (TL.r 6 [0,1] [(18,.b (a.Track.Time == b_.Track.Time))] {} (TL.split 18 (a.Track.Time == b_.Track.Time) Kr (fun h1=>?_) (fun h1=>?_))))
    · refine TL.r 15 [0,1,0,1] [(20,P.v a.Track.At),(22,P.v b_.Track.At),(27,.i (w64 (a.Track.Radius + b_.Track.Radius)))] {} (TL.c 28 (ZQ a.Track.At b_.Track.At (w64 (a.Track.Radius + b_.Track.Radius))) (fun r1=>.b r1) (fun w _=>QH a.Track.At b_.Track.At (w64 (a.Track.Radius + b_.Track.Radius)) w) {} (fun r1 hr1=>TL.r 18 [] [(30,.b r1)] {} (TL.split 30 r1 Kr (fun h2=>?_) (fun h2=>?_))))
      · refine TL.r 23 [0,1] [(32,.i a.Track.Height),(34,.i b_.Track.Height),(35,.i band)] {} (TL.c 36 (JM a.Track.Height b_.Track.Height band) (fun r2=>.b r2) (fun w _=>Wc a.Track.Height b_.Track.Height band w) {} (fun r2 hr2=>TL.r 26 [] [(38,.b r2)] {} (TL.split 38 r2 Kr (fun h3=>?_) (fun h3=>?_))))
        · refine TL.r 32 [0,1] [(44,.b (a.Track.Code == b_.Track.Code))] {} (TL.split 44 (a.Track.Code == b_.Track.Code) Kr (fun h4=>?_) (fun h4=>?_))
          · exact TL.r 43 [] [(6,.b true)] {} (TL.next rfl (TC.ret (TE.ret [] (.b true) {} (by unfold Jo;refine eS (fun z=>(.b z:Value)) ?_;subst hr1 hr2;exact Zi h1 (Zi h2 (Zi h3 (Zi h4 (rfl))))))))
          · refine TL.r 37 [0] [(49,.b (a.Track.Code == (-1)))] {} (TL.split 49 (a.Track.Code == (-1)) Kr (fun h5=>?_) (fun h5=>?_))
            · exact TL.r 43 [] [(6,.b true)] {} (TL.next rfl (TC.ret (TE.ret [] (.b true) {} (by unfold Jo;refine eS (fun z=>(.b z:Value)) ?_;subst hr1 hr2;exact Zi h1 (Zi h2 (Zi h3 (Zb h4 (Zi h5 (rfl)))))))))
            · exact TL.r 43 [1] [(6,.b (b_.Track.Code == (-1)))] {} (TL.next rfl (TC.ret (TE.ret [] (.b (b_.Track.Code == (-1))) {} (by unfold Jo;refine eS (fun z=>(.b z:Value)) ?_;subst hr1 hr2;exact Zi h1 (Zi h2 (Zi h3 (Zb h4 (Zb h5 (rfl)))))))))
        · exact TL.r 43 [] [(6,.b false)] {} (TL.next rfl (TC.ret (TE.ret [] (.b false) {} (by unfold Jo;refine eS (fun z=>(.b z:Value)) ?_;subst hr1 hr2;exact Zi h1 (Zi h2 (Zb h3 (rfl)))))))
      · exact TL.r 43 [] [(6,.b false)] {} (TL.next rfl (TC.ret (TE.ret [] (.b false) {} (by unfold Jo;refine eS (fun z=>(.b z:Value)) ?_;subst hr1;exact Zi h1 (Zb h2 (rfl))))))
    · exact TL.r 43 [] [(6,.b false)] {} (TL.next rfl (TC.ret (TE.ret [] (.b false) {} (by unfold Jo;refine eS (fun z=>(.b z:Value)) ?_;exact Zb h1 (rfl)))))
def JY (i:Int) (k:Int) (x:List Za):Bool :=
  let r1:=cmp_Compare_int (((x[i.toNat]?.getD Za.zero).Track).Radius) (((x[k.toNat]?.getD Za.zero).Track).Radius)
  let r2:=cmp_Compare_int (((x[k.toNat]?.getD Za.zero).Track).Hits) (((x[i.toNat]?.getD Za.zero).Track).Hits)
  let r3:=cmp_Compare_int (((x[i.toNat]?.getD Za.zero).Track).ID) (((x[k.toNat]?.getD Za.zero).Track).ID)
  let r4:=cmp_Compare_int i k
  let r5:=QQ ([r1,r2,r3,r4])
  decide (r5 < 0)
set_option maxRecDepth 100000 in
theorem Wp (i:Int) (k:Int) (a_x:Addr) (A_x:Option Addr) (c_x:Nat) (x:List Za) (w:World) (h_x:Rd w 1 (some a_x) [Sl.c (⟨A_x,c_x,x⟩:Sl Za)]) (hd_x:(⟨A_x,c_x,x⟩:Sl Za).rd w 20 Za.c) (hi:0 ≤ i ∧ i < (x.length:Int)) (hk:0 ≤ k ∧ k < (x.length:Int)):Calls Tryz.prog 157 #[.int .i64 i,.int .i64 k,.pointer (some a_x)] w (Ret w (.bool (JY i k x))):=by
  refine Zk (vs:=[.i i,.i k,.pointer (some a_x)]) (w:=w) Tryz.func157 rfl Tryz.ntmps157 rfl (TC.sr (TL.r 1 [] [(5,.b false)] {} (TL.ns (TC.plan (G:=Nat × Nat) (base:=[(0,.i i),(1,.i k),(2,.pointer (some a_x))]) (vals:=fun γ=>[.slice A_x x.length c_x,.i i,.pointer (some (Ix A_x (i.toNat * 20))),.pointer (some (Ix A_x (i.toNat * 20))),Track.v ((x[i.toNat]?.getD Za.zero).Track),.slice A_x x.length c_x,.i k,.pointer (some (Ix A_x (k.toNat * 20))),.pointer (some (Ix A_x (k.toNat * 20))),Track.v ((x[k.toNat]?.getD Za.zero).Track),.p0 γ.1,.p0 γ.2,undef,undef]) (writes:=[10,11,12,13]) (mem:=fun bs γ=>match bs with | [x10_,x11_,x12_,x13_]=>(bif x12_ then [Bk γ.1 (Track.c ((x[i.toNat]?.getD Za.zero).Track)) 40] else bif x10_ then [Bk γ.1 (Track.c Track.zero) 40] else []) ++ ((bif x13_ then [Bk γ.2 (Track.c ((x[k.toNat]?.getD Za.zero).Track)) 40] else bif x11_ then [Bk γ.2 (Track.c Track.zero) 40] else []) ++ ([])) | _=>[]) (0,0) (fun γ=>[(0,.i i),(1,.i k),(6,.p0 γ.1),(7,.p0 γ.2)]) Kr Kr Kr Kr Kr (fun γ=>Kr) (fun _ hM=>hM) (fun γ=>Kr) ?_ ?_))))
  · skip
    exact Steps.val (i:=0) (fun (γ:Nat × Nat)=>sV (Instr.loadAt 31 (.pointer (some a_x)))) (some 8) (fun (γ:Nat × Nat)=>.slice A_x x.length c_x) (fun _=>[]) Kr (fun S (γ:Nat × Nat) w _ hM=>by rw [mS4 rfl rfl rfl rfl] at hM;exact hM.sub (Zj (Zj (List.Sublist.refl _)))) (fun (γ:Nat × Nat) w hM=>Zs (off:=0) (.slice A_x x.length c_x) (h_x.sat hM) (X9 _) Kr Kr) (fun (γ:Nat × Nat)=>Kr) (fun (γ:Nat × Nat)=>Kr) (Steps.run (i:=1) 2 [0] [] Kr Kr (fun S (γ:Nat × Nat) w hM=>by rw [mS4 rfl rfl rfl rfl] at hM;exact hM.sub (Zj (Zj (List.Sublist.refl _)))) Kr (fun (γ:Nat × Nat)=>{}) (Steps.val (i:=2) (fun (γ:Nat × Nat)=>sV (Instr.indexAt 31 (.slice A_x x.length c_x) (.i i))) (some 10) (fun (γ:Nat × Nat)=>.pointer (some (Ix A_x (i.toNat * 20)))) (fun _=>[]) Kr (fun S (γ:Nat × Nat) w _ hM=>by rw [mS4 rfl rfl rfl rfl] at hM;exact hM.sub (Zj (Zj (List.Sublist.refl _)))) (fun (γ:Nat × Nat) w hM=>Zr (hd_x.rd.sat hM) (by simp) Kr sd sd) (fun (γ:Nat × Nat)=>Kr) (fun (γ:Nat × Nat)=>Kr) (Steps.run (i:=3) 4 [0] [] Kr Kr (fun S (γ:Nat × Nat) w hM=>by rw [mS4 rfl rfl rfl rfl] at hM;exact hM.sub (Zj (Zj (List.Sublist.refl _)))) Kr (fun (γ:Nat × Nat)=>{}) (Steps.val (i:=4) (fun (γ:Nat × Nat)=>sV (Instr.loadAt 40 (.pointer (some (Ix A_x (i.toNat * 20)))))) (some 12) (fun (γ:Nat × Nat)=>Track.v ((x[i.toNat]?.getD Za.zero).Track)) (fun _=>[]) Kr (fun S (γ:Nat × Nat) w _ hM=>by rw [mS4 rfl rfl rfl rfl] at hM;exact hM.sub (Zj (Zj (List.Sublist.refl _)))) (fun (γ:Nat × Nat) w hM=>Z6 (n:=13) (off:=0) (i:=i.toNat) (Track.v ((x[i.toNat]?.getD Za.zero).Track)) (hd_x.rd.sat hM) (ZA (getD_at _ _ Za.zero sd)) Kr Kr Kr) (fun (γ:Nat × Nat)=>Kr) (fun (γ:Nat × Nat)=>Kr) (Steps.val (i:=5) (fun (γ:Nat × Nat)=>sV (Instr.loadAt 31 (.pointer (some a_x)))) (some 13) (fun (γ:Nat × Nat)=>.slice A_x x.length c_x) (fun _=>[]) Kr (fun S (γ:Nat × Nat) w _ hM=>by rw [mS4 rfl rfl rfl rfl] at hM;exact hM.sub (Zj (Zj (List.Sublist.refl _)))) (fun (γ:Nat × Nat) w hM=>Zs (off:=0) (.slice A_x x.length c_x) (h_x.sat hM) (X9 _) Kr Kr) (fun (γ:Nat × Nat)=>Kr) (fun (γ:Nat × Nat)=>Kr) (Steps.run (i:=6) 7 [0] [] Kr Kr (fun S (γ:Nat × Nat) w hM=>by rw [mS4 rfl rfl rfl rfl] at hM;exact hM.sub (Zj (Zj (List.Sublist.refl _)))) Kr (fun (γ:Nat × Nat)=>{}) (Steps.val (i:=7) (fun (γ:Nat × Nat)=>sV (Instr.indexAt 31 (.slice A_x x.length c_x) (.i k))) (some 15) (fun (γ:Nat × Nat)=>.pointer (some (Ix A_x (k.toNat * 20)))) (fun _=>[]) Kr (fun S (γ:Nat × Nat) w _ hM=>by rw [mS4 rfl rfl rfl rfl] at hM;exact hM.sub (Zj (Zj (List.Sublist.refl _)))) (fun (γ:Nat × Nat) w hM=>Zr (hd_x.rd.sat hM) (by simp) Kr sd sd) (fun (γ:Nat × Nat)=>Kr) (fun (γ:Nat × Nat)=>Kr) (Steps.run (i:=8) 9 [0] [] Kr Kr (fun S (γ:Nat × Nat) w hM=>by rw [mS4 rfl rfl rfl rfl] at hM;exact hM.sub (Zj (Zj (List.Sublist.refl _)))) Kr (fun (γ:Nat × Nat)=>{}) (Steps.val (i:=9) (fun (γ:Nat × Nat)=>sV (Instr.loadAt 40 (.pointer (some (Ix A_x (k.toNat * 20)))))) (some 17) (fun (γ:Nat × Nat)=>Track.v ((x[k.toNat]?.getD Za.zero).Track)) (fun _=>[]) Kr (fun S (γ:Nat × Nat) w _ hM=>by rw [mS4 rfl rfl rfl rfl] at hM;exact hM.sub (Zj (Zj (List.Sublist.refl _)))) (fun (γ:Nat × Nat) w hM=>Z6 (n:=13) (off:=0) (i:=k.toNat) (Track.v ((x[k.toNat]?.getD Za.zero).Track)) (hd_x.rd.sat hM) (ZA (getD_at _ _ Za.zero sd)) Kr Kr Kr) (fun (γ:Nat × Nat)=>Kr) (fun (γ:Nat × Nat)=>Kr) (Steps.op (i:=10) (Γ:=Nat) (fun g (γ:Nat × Nat)=>(g,γ.2)) (fun _=>[]) (fun b (γ:Nat × Nat)=>[Bk b (Track.c Track.zero) 40]) (fun S (γ:Nat × Nat)=>(bif S 13 then [Bk γ.2 (Track.c ((x[k.toNat]?.getD Za.zero).Track)) 40] else bif S 11 then [Bk γ.2 (Track.c Track.zero) 40] else []) ++ ([])) [10,12,13] (fun (γ:Nat × Nat)=>sV (Instr.alloc 40 true (.tuple #[]))) (some 6) (fun b (γ:Nat × Nat)=>.p0 b) (fun S (γ:Nat × Nat) hj hd hl=>by rw [mS4 hj rfl (hl 12 Kr) rfl];exact List.Perm.refl _) (fun S (γ:Nat × Nat) g hl=>by rw [mS4 (S:=upS S 10) (a0:=10) (a1:=11) (a2:=12) (a3:=13) rfl rfl (hl 12 Kr) rfl];exact (List.Perm.refl _).symm) (fun (γ:Nat × Nat) M' w hM=>Qx (v:=fun b=>.p0 b) (fun b M=>Kr) M' w hM) (fun (γ:Nat × Nat)=>Kr) (fun (γ:Nat × Nat) g=>Kr) Kr (fun (γ:Nat × Nat) g=>Kr) (Steps.op (i:=11) (Γ:=Nat) (fun g (γ:Nat × Nat)=>(γ.1,g)) (fun _=>[]) (fun b (γ:Nat × Nat)=>[Bk b (Track.c Track.zero) 40]) (fun S (γ:Nat × Nat)=>(bif S 12 then [Bk γ.1 (Track.c ((x[i.toNat]?.getD Za.zero).Track)) 40] else bif S 10 then [Bk γ.1 (Track.c Track.zero) 40] else []) ++ ([])) [11,12,13] (fun (γ:Nat × Nat)=>sV (Instr.alloc 40 true (.tuple #[]))) (some 7) (fun b (γ:Nat × Nat)=>.p0 b) (fun S (γ:Nat × Nat) hj hd hl=>by rw [mS4 rfl hj rfl (hl 13 Kr)];exact (List.Perm.append_left _ (List.Perm.refl _)).trans (ZU _ _ _)) (fun S (γ:Nat × Nat) g hl=>by rw [mS4 (S:=upS S 11) (a0:=10) (a1:=11) (a2:=12) (a3:=13) rfl rfl rfl (hl 13 Kr)];exact ((List.Perm.append_left _ (List.Perm.refl _)).trans (ZU _ _ _)).symm) (fun (γ:Nat × Nat) M' w hM=>Qx (v:=fun b=>.p0 b) (fun b M=>Kr) M' w hM) (fun (γ:Nat × Nat)=>Kr) (fun (γ:Nat × Nat) g=>Kr) Kr (fun (γ:Nat × Nat) g=>Kr) (Steps.put (i:=12) (fun (γ:Nat × Nat)=>[Bk γ.1 (Track.c Track.zero) 40]) (fun (γ:Nat × Nat)=>[Bk γ.1 (Track.c ((x[i.toNat]?.getD Za.zero).Track)) 40]) (fun S (γ:Nat × Nat)=>(bif S 13 then [Bk γ.2 (Track.c ((x[k.toNat]?.getD Za.zero).Track)) 40] else bif S 11 then [Bk γ.2 (Track.c Track.zero) 40] else []) ++ ([])) (fun (γ:Nat × Nat)=>sU (Instr.storeAt 40 (.p0 γ.1) (Track.v ((x[i.toNat]?.getD Za.zero).Track)))) none (fun S (γ:Nat × Nat) hj hd hl=>by rw [mS4 (hd 10 Kr) rfl hj rfl];exact List.Perm.refl _) (fun S (γ:Nat × Nat) _=>(List.Perm.refl _).symm) (fun (γ:Nat × Nat) M' w hM=>QP (fun b M=>Kr) (fun b M=>Kr) M' w hM) (fun (γ:Nat × Nat)=>Kr) (fun (γ:Nat × Nat)=>Kr) (Steps.put (i:=13) (fun (γ:Nat × Nat)=>[Bk γ.2 (Track.c Track.zero) 40]) (fun (γ:Nat × Nat)=>[Bk γ.2 (Track.c ((x[k.toNat]?.getD Za.zero).Track)) 40]) (fun S (γ:Nat × Nat)=>(bif S 12 then [Bk γ.1 (Track.c ((x[i.toNat]?.getD Za.zero).Track)) 40] else bif S 10 then [Bk γ.1 (Track.c Track.zero) 40] else []) ++ ([])) (fun (γ:Nat × Nat)=>sU (Instr.storeAt 40 (.p0 γ.2) (Track.v ((x[k.toNat]?.getD Za.zero).Track)))) none (fun S (γ:Nat × Nat) hj hd hl=>by rw [mS4 rfl (hd 11 Kr) rfl hj];exact (List.Perm.append_left _ (List.Perm.refl _)).trans (ZU _ _ _)) (fun S (γ:Nat × Nat) _=>((List.Perm.append_left _ (List.Perm.refl _)).trans (ZU _ _ _)).symm) (fun (γ:Nat × Nat) M' w hM=>QP (fun b M=>Kr) (fun b M=>Kr) M' w hM) (fun (γ:Nat × Nat)=>Kr) (fun (γ:Nat × Nat)=>Kr) (Steps.done Kr))))))))))))))
  · rintro ⟨b1,b2⟩
    exact TE.conv [Bk b1 (Track.c ((x[i.toNat]?.getD Za.zero).Track)) 40,Bk b2 (Track.c ((x[k.toNat]?.getD Za.zero).Track)) 40] (fun _ hM=>hM) (TE.next (TC.seq (TC.drawTail 18 Kr Kr (TQ.r 4 [0,1] [(19,.i (((x[i.toNat]?.getD Za.zero).Track).Radius)),(21,.i (((x[k.toNat]?.getD Za.zero).Track).Radius))] {} (TQ.c 22 (cmp_Compare_int (((x[i.toNat]?.getD Za.zero).Track).Radius) (((x[k.toNat]?.getD Za.zero).Track).Radius)) (fun r1=>.i r1) (fun w _=>ZZ (((x[i.toNat]?.getD Za.zero).Track).Radius) (((x[k.toNat]?.getD Za.zero).Track).Radius) w) rfl {} (fun r1 hr1=>TQ.r 9 [1,0] [(24,.i (((x[k.toNat]?.getD Za.zero).Track).Hits)),(26,.i (((x[i.toNat]?.getD Za.zero).Track).Hits))] {} (TQ.c 27 (cmp_Compare_int (((x[k.toNat]?.getD Za.zero).Track).Hits) (((x[i.toNat]?.getD Za.zero).Track).Hits)) (fun r2=>.i r2) (fun w _=>ZZ (((x[k.toNat]?.getD Za.zero).Track).Hits) (((x[i.toNat]?.getD Za.zero).Track).Hits) w) rfl {} (fun r2 hr2=>TQ.r 14 [0,1] [(29,.i (((x[i.toNat]?.getD Za.zero).Track).ID)),(31,.i (((x[k.toNat]?.getD Za.zero).Track).ID))] {} (TQ.c 32 (cmp_Compare_int (((x[i.toNat]?.getD Za.zero).Track).ID) (((x[k.toNat]?.getD Za.zero).Track).ID)) (fun r3=>.i r3) (fun w _=>ZZ (((x[i.toNat]?.getD Za.zero).Track).ID) (((x[k.toNat]?.getD Za.zero).Track).ID) w) rfl {} (fun r3 hr3=>TQ.r 17 [] [(33,.i i),(34,.i k)] {} (TQ.c 35 (cmp_Compare_int i k) (fun r4=>.i r4) (fun w _=>ZZ i k w) rfl {} (fun r4 hr4=>TQ.tail rfl (TL.nw 36 (fun b3=>.slice (Pa b3) 4 4) (fun b3=>Bk b3 #[.i r1,.i r2,.i r3,.i r4] 3) (fun b3=>{}) (fun b3=>TL.c 37 (QQ ([r1,r2,r3,r4])) (fun r5=>.i r5) (fun w hM=>V1 (Pa b3) 4 ([r1,r2,r3,r4]) w (Rd.lit hM 0 _ rfl Kr Kr Kr) (Nat.le_refl _)) {} (fun r5 hr5=>TL.r 22 [] [(5,.b (decide (r5 < 0)))] {} (TL.next rfl (TC.ret (TE.ret [] (.b (decide (r5 < 0))) {} (by unfold JY;refine eS (fun z=>(.b z:Value)) ?_;subst hr1 hr2 hr3 hr4 hr5;exact rfl)))))))))))))))))))
def QI:List Za → Nat → ((Unit) ⊕ ((List Za) × Int))
  | [],_=>.inl ()
  | x :: xs,k=>let r1:=Z1 x
    cond (r1 != 0) (
      .inr ([],r1)) (
      QI xs (k + 1))
def XB (l:List Za) (band:Int) (k_2:Nat) (x_2:Za):List Za → Nat → Bool → Bool
  | [],_,keep=>keep
  | x_3 :: xs,k_3,keep=>cond ((k_3:Int) != (k_2:Int)) (
      let r3:=Jo x_2 x_3 band
      cond ((r3 && (x_2.Track.Code == x_3.Track.Code)) && (x_2.Track.Code != (-1))) (
        let r4:=JY (k_3:Int) (k_2:Int) l
        cond r4 (
          XB l band k_2 x_2 xs (k_3 + 1) false) (
          XB l band k_2 x_2 xs (k_3 + 1) keep)) (
        XB l band k_2 x_2 xs (k_3 + 1) keep)) (
      XB l band k_2 x_2 xs (k_3 + 1) keep)
def XQ (l:List Za) (band:Int):List Za → Nat → (List Za) → (List Za)
  | [],_,out=>out
  | x_2 :: xs,k_2,out=>Y3 (XB l band k_2 x_2 l 0 true) (fun keep_2 =>
      cond keep_2 (
        XQ l band xs (k_2 + 1) (out ++ ([x_2]))) (
        XQ l band xs (k_2 + 1) out))
def Xc (l:List Za) (band:Int):List Za × Int :=
  cond (decide ((l.length:Int) > 32)) (
    ([],2)) (
    Sum.elim (fun _ =>
      let r2:=J3 band
      cond r2 (
        ([],4)) (
        Y3 (XQ l band l 0 ([]:List Za)) (fun out_2 =>
          (out_2,0)))) (fun r=>r) (QI l 0))
set_option maxHeartbeats 4000000 in
set_option maxRecDepth 100000 in
theorem HM (A_l:Option Addr) (c_l:Nat) (l:List Za) (band:Int) (w:World) (h_l:Rd w 20 A_l (l.map Za.c)) (hc_l:l.length ≤ c_l):Calls Tryz.prog 114 #[.slice A_l l.length c_l,.int .i64 band] w (QK (Γ:=(Option Addr × Nat)) (cx w) (fun g=>.tuple #[.slice g.1 ((Xc l band).1.length) g.2,.int .i64 ((Xc l band).2)]) (fun g=>[.inr (Own g.1 g.2 44 20 (((Xc l band).1).map Za.c))])):=by
  have s_l:=h_l.short;rw [List.length_map] at s_l
  refine Zk (vs:=[.slice A_l l.length c_l,.i band]) (w:=w) Tryz.func114 rfl Tryz.ntmps114 rfl (TC.sr (TL.nw 2 (fun b1=>.p0 b1) (fun b1=>Bk b1 #[.slice A_l l.length c_l] 31) (fun b1=>{}) (fun b1=>TL.r 3 [] [(4,.slice none 0 0),(5,.i 0)] {} (TL.ns (TC.sr (TL.r 3 [0] [(18,.b (decide ((l.length:Int) > 32)))] {} (TL.next rfl (TC.cond (decide ((l.length:Int) > 32)) rfl Kr (fun h1=>?_) (fun h1=>?_)))))))))
  · refine TC.sr (TL.r 2 [] [(4,.slice none 0 0),(5,.i 2)] {} (TL.next rfl (TC.ret (TE.rt ?_))))
    have e:Xc l band=([],2):=by unfold Xc;exact Zi h1 (rfl)
    refine TE.conv [Ow none 0 44 20 (([]:List Za).map Za.c),Bk b1 #[.slice A_l l.length c_l] 31] (fun _ hM=>hM.emptyrow none 44 20) ?_
    rw [e]
    exact TE.retM (.inl rfl) (none,0) [] (.tuple #[.slice none 0 0,.i 2]) {} rfl (fun _ hM=>hM.sub (sb 1))
  · have q1_0:=(Zo h1)
    refine TC.sn (TC.seq (TC.sr (TL.r 3 [0] [(19,.slice A_l l.length c_l),(20,.i (l.length:Int)),(21,.i 0)] {} (TL.next rfl ?_))))
    obtain ⟨R2,hR⟩:∃ R,R=QI l 0:=⟨_,rfl⟩
    refine TC.cut (S:=Unit) (fun (_:Unit)=>[(1,.i band),(2,.p0 b1)]) (fun (_:Unit)=>[Bk b1 #[.slice A_l l.length c_l] 31]) (fun (_:Unit)=>R2=.inl ()) ?_ ?_
    · refine TC.block (TC.lw (X:=Nat) (fun k=>[(1,.i band),(2,.p0 b1),(19,.slice A_l l.length c_l),(20,.i (l.length:Int)),(21,.i (k:Int))]) (fun k=>[Bk b1 #[.slice A_l l.length c_l] 31]) (fun k=>l.length - k) (fun k=>k ≤ l.length ∧ R2=QI (l.drop k) k) ?_ 0 ⟨Nat.zero_le _,hR⟩ Kr (sb 1))
      rintro k ⟨hk,hI⟩
      refine TC.sr (TL.r 1 [] [(22,.b (decide ((k:Int) < (l.length:Int))))] {} (TL.ns (TC.cond (decide ((k:Int) < (l.length:Int))) rfl Kr (fun h2=>?_) (fun h2=>?_))))
      · have hlt:=ltN h2
        obtain ⟨x,hx⟩:=elN hlt
        have hd:=drop_at hx
        refine TC.sn (TC.seq (TC.block (TC.sr (TL.v (sV (Instr.indexAt 31 (.slice A_l l.length c_l) (.i (k:Int)))) 23 (.pointer (some (Ix A_l (k * 20)))) (fun w hM=>Zr (h_l.sat hM) (by simp) Kr sd sd) {} (TL.v (sV (Instr.loadAt 44 (.pointer (some (Ix A_l (k * 20)))))) 24 (Za.v x) (fun w hM=>Z6 (n:=20) (off:=0) (i:=k) (Za.v x) (h_l.sat hM) (ZA hx) Kr Kr Kr) {} (TL.nw 7 (fun b2=>.p0 b2) (fun b2=>Bk b2 (Za.c Za.zero) 44) (fun b2=>{}) (fun b2=>TL.s 0 (Bk b2 (Za.c x) 44) (fun _=>{}) (TL.nr (TL.r 1 [0] [(25,Za.v x)] {} (TL.c 26 (Z1 x) (fun r1=>.i r1) (fun w _=>XA x w) {} (fun r1 hr1=>TL.r 3 [] [(8,.i r1)] {} (TL.nr (TL.r 2 [] [(28,.b (r1 != 0))] {} (TL.next rfl (TC.cond (r1 != 0) rfl Kr (fun h3=>?_) (fun h3=>?_))))))))))))))))
        · refine TC.sr (TL.r 3 [] [(4,.slice none 0 0),(5,.i r1)] {} (TL.next rfl (TC.ret (TE.rb (TE.rt (TE.rt (TE.rb (TE.rt (TE.rt ?_)))))))))
          have e:Xc l band=([],r1):=by subst hr1;unfold Xc;exact Zb h1 (X7 (hR.symm.trans (hI.trans (by rw [hd];exact Zi h3 (rfl)))) rfl)
          refine TE.conv [Ow none 0 44 20 (([]:List Za).map Za.c),Bk b2 (Za.c x) 44,Bk b1 #[.slice A_l l.length c_l] 31] (fun _ hM=>hM.emptyrow none 44 20) ?_
          rw [e]
          exact TE.retM (.inl rfl) (none,0) [] (.tuple #[.slice none 0 0,.i r1]) {} rfl (fun _ hM=>hM.sub (sb 1))
        · have q3_0:=(QG h3)
          exact TC.skip (TE.nb (TE.next (TC.region (TL.r 2 [] [(21,.i (w64 ((k:Int) + 1)))] {} (TL.done rfl (TE.rw 21 (.i (w64 ((k:Int) + 1))) (.i ((k + 1:Nat):Int)) Kr (ZD k (by omega)) (TE.again (x:=k) (k + 1) ⟨by omega,hI.trans (by subst hr1;rw [hd];exact Zb h3 (rfl))⟩ (mN hlt) Kr (sb 2))))))))
      · have hd:=XL h2
        refine TC.exit (TE.et (TE.et (TE.exit_same ?_)))
        exact TE.cut () (hI.trans (by rw [hd];exact rfl)) Kr (sb 1)
    · intro _ hJ
      refine TE.next (TC.seq (TC.sr (TL.r 1 [] [(31,.i band)] {} (TL.c 32 (J3 band) (fun r2=>.b r2) (fun w _=>UW band w) {} (fun r2 hr2=>TL.next rfl (TC.cond r2 rfl Kr (fun h4=>?_) (fun h4=>?_)))))))
      · refine TC.sr (TL.r 2 [] [(4,.slice none 0 0),(5,.i 4)] {} (TL.next rfl (TC.ret (TE.rt ?_))))
        have e:Xc l band=([],4):=by subst hr2;unfold Xc;exact Zb h1 (XI (hR.symm.trans hJ) (Zi h4 (rfl)))
        refine TE.conv [Ow none 0 44 20 (([]:List Za).map Za.c),Bk b1 #[.slice A_l l.length c_l] 31] (fun _ hM=>hM.emptyrow none 44 20) ?_
        rw [e]
        exact TE.retM (.inl rfl) (none,0) [] (.tuple #[.slice none 0 0,.i 4]) {} rfl (fun _ hM=>hM.sub (sb 1))
      · refine TC.snr (TL.r 2 [] [(9,.func (.func 157) #[] #[.p0 b1])] {} (TL.nr (TL.r 1 [] [(10,.slice none 0 0)] {} (TL.ns (TC.sr (TL.r 3 [0] [(34,.slice A_l l.length c_l),(35,.i (l.length:Int)),(36,.i 0)] {} (TL.next rfl (TC.conv [Ow none 0 44 20 (([]:List Za).map Za.c),Bk b1 #[.slice A_l l.length c_l] 31] (fun _ hM=>hM.emptyrow none 44 20) ?_))))))))
        obtain ⟨R6,hR_2⟩:∃ R,R=XQ l band l 0 ([]:List Za):=⟨_,rfl⟩
        refine TC.cut (S:=(List Za) × (Option Addr) × Nat) (fun (out_2,A_out_2,c_out_2)=>[(10,.slice A_out_2 out_2.length c_out_2)]) (fun (out_2,A_out_2,c_out_2)=>[Ow A_out_2 c_out_2 44 20 (out_2.map Za.c)]) (fun (out_2,A_out_2,c_out_2)=>R6=out_2 ∧ out_2.length ≤ l.length) ?_ ?_
        · refine TC.block (TC.lw (X:=Nat × (List Za) × (Option Addr) × Nat) (fun (k_2,out,A_out,c_out)=>[(1,.i band),(2,.p0 b1),(9,.func (.func 157) #[] #[.p0 b1]),(10,.slice A_out out.length c_out),(34,.slice A_l l.length c_l),(35,.i (l.length:Int)),(36,.i (k_2:Int))]) (fun (k_2,out,A_out,c_out)=>[Ow A_out c_out 44 20 (out.map Za.c),Bk b1 #[.slice A_l l.length c_l] 31]) (fun (k_2,out,A_out,c_out)=>l.length - k_2) (fun (k_2,out,A_out,c_out)=>k_2 ≤ l.length ∧ R6=XQ l band (l.drop k_2) k_2 out ∧ out.length ≤ k_2) ?_ (0,([]:List Za),none,0) ⟨Nat.zero_le _,hR_2,sz⟩ Kr (sb 3))
          rintro ⟨k_2,out,A_out,c_out⟩ ⟨hk_2,hI_2,hl_out⟩
          refine TC.sr (TL.r 1 [] [(37,.b (decide ((k_2:Int) < (l.length:Int))))] {} (TL.ns (TC.cond (decide ((k_2:Int) < (l.length:Int))) rfl Kr (fun h5=>?_) (fun h5=>?_))))
          · have hlt_2:=ltN h5
            obtain ⟨x_2,hx_2⟩:=elN hlt_2
            have hd_2:=drop_at hx_2
            refine TC.sn (TC.seq (TC.block (TC.sr (TL.r 1 [] [(38,.i (k_2:Int))] {} (TL.v (sV (Instr.indexAt 31 (.slice A_l l.length c_l) (.i (k_2:Int)))) 39 (.pointer (some (Ix A_l (k_2 * 20)))) (fun w hM=>Zr (h_l.sat hM) (by simp) Kr sd sd) {} (TL.v (sV (Instr.loadAt 44 (.pointer (some (Ix A_l (k_2 * 20)))))) 40 (Za.v x_2) (fun w hM=>Z6 (n:=20) (off:=0) (i:=k_2) (Za.v x_2) (h_l.sat hM) (ZA hx_2) Kr Kr Kr) {} (TL.nw 12 (fun b3=>.p0 b3) (fun b3=>Bk b3 (Za.c Za.zero) 44) (fun b3=>{}) (fun b3=>TL.r 5 [] [(11,.i (k_2:Int))] {} (TL.s 0 (Bk b3 (Za.c x_2) 44) (fun _=>{}) (TL.nr (TL.r 1 [] [(13,.b true)] {} (TL.ns (TC.sr (TL.r 3 [2] [(41,.slice A_l l.length c_l),(42,.i (l.length:Int)),(43,.i 0)] {} (TL.next rfl ?_)))))))))))))))
            obtain ⟨R7,hR_3⟩:∃ R,R=XB l band k_2 x_2 l 0 true:=⟨_,rfl⟩
            refine TC.cut (S:=Bool) (fun keep_2=>[(1,.i band),(2,.p0 b1),(9,.func (.func 157) #[] #[.p0 b1]),(10,.slice A_out out.length c_out),(12,.p0 b3),(13,.b keep_2),(34,.slice A_l l.length c_l),(35,.i (l.length:Int)),(36,.i (k_2:Int))]) (fun keep_2=>[Bk b3 (Za.c x_2) 44,Ow A_out c_out 44 20 (out.map Za.c),Bk b1 #[.slice A_l l.length c_l] 31]) (fun keep_2=>R7=keep_2) ?_ ?_
            · refine TC.block (TC.lw (X:=Nat × Bool) (fun (k_3,keep)=>[(1,.i band),(2,.p0 b1),(9,.func (.func 157) #[] #[.p0 b1]),(10,.slice A_out out.length c_out),(11,.i (k_2:Int)),(12,.p0 b3),(13,.b keep),(34,.slice A_l l.length c_l),(35,.i (l.length:Int)),(36,.i (k_2:Int)),(41,.slice A_l l.length c_l),(42,.i (l.length:Int)),(43,.i (k_3:Int))]) (fun (k_3,keep)=>[Bk b3 (Za.c x_2) 44,Ow A_out c_out 44 20 (out.map Za.c),Bk b1 #[.slice A_l l.length c_l] 31]) (fun (k_3,keep)=>l.length - k_3) (fun (k_3,keep)=>k_3 ≤ l.length ∧ R7=XB l band k_2 x_2 (l.drop k_3) k_3 keep) ?_ (0,true) ⟨Nat.zero_le _,hR_3⟩ Kr (sb 7))
              rintro ⟨k_3,keep⟩ ⟨hk_3,hI_3⟩
              refine TC.sr (TL.r 1 [] [(44,.b (decide ((k_3:Int) < (l.length:Int))))] {} (TL.ns (TC.cond (decide ((k_3:Int) < (l.length:Int))) rfl Kr (fun h6=>?_) (fun h6=>?_))))
              · have hlt_3:=ltN h6
                obtain ⟨x_3,hx_3⟩:=elN hlt_3
                have hd_3:=drop_at hx_3
                refine TC.sn (TC.seq (TC.block (TC.sr (TL.r 1 [] [(45,.i (k_3:Int))] {} (TL.v (sV (Instr.indexAt 31 (.slice A_l l.length c_l) (.i (k_3:Int)))) 46 (.pointer (some (Ix A_l (k_3 * 20)))) (fun w hM=>Zr (h_l.sat hM) (by simp) Kr sd sd) {} (TL.v (sV (Instr.loadAt 44 (.pointer (some (Ix A_l (k_3 * 20)))))) 47 (Za.v x_3) (fun w hM=>Z6 (n:=20) (off:=0) (i:=k_3) (Za.v x_3) (h_l.sat hM) (ZA hx_3) Kr Kr Kr) {} (TL.nw 15 (fun b4=>.p0 b4) (fun b4=>Bk b4 (Za.c Za.zero) 44) (fun b4=>{}) (fun b4=>TL.r 5 [] [(14,.i (k_3:Int))] {} (TL.s 0 (Bk b4 (Za.c x_3) 44) (fun _=>{}) (TL.nr (TL.r 4 [] [(51,.b ((k_3:Int) != (k_2:Int)))] {} (TL.split 51 ((k_3:Int) != (k_2:Int)) Kr (fun h7=>?_) (fun h7=>?_)))))))))))))
                · have q7_0:=(MS h7)
                  refine TL.r 7 [1,0] [(52,Za.v x_2),(53,Za.v x_3),(54,.i band)] {} (TL.c 55 (Jo x_2 x_3 band) (fun r3=>.b r3) (fun w _=>F8 x_2 x_3 band w) {} (fun r3 hr3=>TL.r 10 [] [(57,.b r3)] {} (TL.j 57 r3 18 [1,0] [] (fun β=>[(65,.b (β && (x_2.Track.Code == x_3.Track.Code)))]) Kr {} {} (TL.r 19 [] [(66,.b (r3 && (x_2.Track.Code == x_3.Track.Code)))] {} (TL.j 66 (r3 && (x_2.Track.Code == x_3.Track.Code)) 24 [1] [] (fun β=>[(71,.b (β && (x_2.Track.Code != (-1))))]) Kr {} {} (TL.r 25 [] [(72,.b ((r3 && (x_2.Track.Code == x_3.Track.Code)) && (x_2.Track.Code != (-1))))] {} (TL.split 72 ((r3 && (x_2.Track.Code == x_3.Track.Code)) && (x_2.Track.Code != (-1))) Kr (fun h8=>?_) (fun h8=>?_))))))))
                  · have q8_0:=(Yx (QO (Qi h8)))
                    have q8_1:=(MS (QO h8))
                    refine TL.r 28 [] [(73,.func (.func 157) #[] #[.p0 b1]),(74,.i (k_3:Int)),(75,.i (k_2:Int))] {} (TL.c 76 (JY (k_3:Int) (k_2:Int) l) (fun r4=>.b r4) (fun w hM=>Wp (k_3:Int) (k_2:Int) ⟨b1,0,none⟩ A_l c_l l w (Rd.lit hM 3 _ rfl Kr Kr Kr) ⟨(h_l.sat hM),hc_l⟩ sg sg) {} (fun r4 hr4=>TL.r 30 [] [(77,.b r4)] {} (TL.next rfl (TC.cond r4 rfl Kr (fun h9=>?_) (fun h9=>?_)))))
                    · exact TC.region (TL.r 1 [] [(13,.b false)] {} (TL.done rfl (TE.nb (TE.next (TC.region (TL.r 2 [] [(43,.i (w64 ((k_3:Int) + 1)))] {} (TL.done rfl (TE.rw 43 (.i (w64 ((k_3:Int) + 1))) (.i ((k_3 + 1:Nat):Int)) Kr (ZD k_3 (by omega)) (TE.again (x:=(k_3,keep)) (k_3 + 1,false) ⟨by omega,hI_3.trans (by subst hr2 hr3 hr4;rw [hd_3];exact Zi h7 (Zi h8 (Zi h9 (rfl))))⟩ (mN hlt_3) Kr (sb 14))))))))))
                    · exact TC.skip (TE.nb (TE.next (TC.region (TL.r 2 [] [(43,.i (w64 ((k_3:Int) + 1)))] {} (TL.done rfl (TE.rw 43 (.i (w64 ((k_3:Int) + 1))) (.i ((k_3 + 1:Nat):Int)) Kr (ZD k_3 (by omega)) (TE.again (x:=(k_3,keep)) (k_3 + 1,keep) ⟨by omega,hI_3.trans (by subst hr2 hr3 hr4;rw [hd_3];exact Zi h7 (Zi h8 (Zb h9 (rfl))))⟩ (mN hlt_3) Kr (sb 14))))))))
                  · exact TL.r 30 [] [(77,.b false)] {} (TL.next rfl (TC.condF rfl Kr (TC.skip (TE.nb (TE.next (TC.region (TL.r 2 [] [(43,.i (w64 ((k_3:Int) + 1)))] {} (TL.done rfl (TE.rw 43 (.i (w64 ((k_3:Int) + 1))) (.i ((k_3 + 1:Nat):Int)) Kr (ZD k_3 (by omega)) (TE.again (x:=(k_3,keep)) (k_3 + 1,keep) ⟨by omega,hI_3.trans (by subst hr2 hr3;rw [hd_3];exact Zi h7 (Zb h8 (rfl)))⟩ (mN hlt_3) Kr (sb 14)))))))))))
                · have q7_0:=(QG h7)
                  exact TL.r 30 [] [(77,.b false)] {} (TL.next rfl (TC.condF rfl Kr (TC.skip (TE.nb (TE.next (TC.region (TL.r 2 [] [(43,.i (w64 ((k_3:Int) + 1)))] {} (TL.done rfl (TE.rw 43 (.i (w64 ((k_3:Int) + 1))) (.i ((k_3 + 1:Nat):Int)) Kr (ZD k_3 (by omega)) (TE.again (x:=(k_3,keep)) (k_3 + 1,keep) ⟨by omega,hI_3.trans (by subst hr2;rw [hd_3];exact Zb h7 (rfl))⟩ (mN hlt_3) Kr (sb 14)))))))))))
              · have hd_3:=XL h6
                refine TC.exit (TE.et (TE.et (TE.exit_same ?_)))
                exact TE.cut keep (hI_3.trans (by subst hr2;rw [hd_3];exact rfl)) Kr (sb 7)
            · rintro keep_2 hJ_3
              refine TE.nr (TL.r 1 [] [(79,.b keep_2)] {} (TL.next rfl (TC.cond keep_2 rfl Kr (fun h10=>?_) (fun h10=>?_))))
              · refine TC.region (TL.r 2 [0] [(80,.slice A_out out.length c_out),(81,Za.v x_2)] {} (TL.nw 82 (fun b5=>.slice (Pa b5) 1 1) (fun b5=>Bk b5 (Za.c x_2) 44) (fun b5=>{}) (fun b5=>TL.os (Γ:=AN) (sV (Builtin.append_ #[31,31] 31 #[.slice A_out out.length c_out,.slice (Pa b5) 1 1])) 83 (fun g=>.slice g.1 (out ++ ([x_2])).length g.2) 2 (fun g=>Ow g.1 g.2 44 20 ((out ++ ([x_2])).map Za.c)) (Qq (bytes:=160) 31 2 ([x_2]) Kr rfl rfl Za.one rfl (fun w hM=>(Rd.lit hM 0 _ rfl Kr Kr Kr)) rfl sa) {} ?_)))
                rintro ⟨A,c⟩
                exact TL.r 5 [] [(10,.slice A ((out ++ ([x_2])).length) c)] {} (TL.done rfl (TE.nb (TE.next (TC.region (TL.r 2 [] [(36,.i (w64 ((k_2:Int) + 1)))] {} (TL.done rfl (TE.rw 36 (.i (w64 ((k_2:Int) + 1))) (.i ((k_2 + 1:Nat):Int)) Kr (ZD k_2 (by omega)) (TE.again (x:=(k_2,out,A_out,c_out)) (k_2 + 1,(out ++ ([x_2])),A,c) ⟨by omega,hI_2.trans (by subst hr2;rw [hd_2];exact Ye (hR_3.symm.trans hJ_3) (Zi h10 (rfl))),sl⟩ (mN hlt_2) Kr (sb 12)))))))))
              · exact TC.skip (TE.nb (TE.next (TC.region (TL.r 2 [] [(36,.i (w64 ((k_2:Int) + 1)))] {} (TL.done rfl (TE.rw 36 (.i (w64 ((k_2:Int) + 1))) (.i ((k_2 + 1:Nat):Int)) Kr (ZD k_2 (by omega)) (TE.again (x:=(k_2,out,A_out,c_out)) (k_2 + 1,out,A_out,c_out) ⟨by omega,hI_2.trans (by subst hr2;rw [hd_2];exact Ye (hR_3.symm.trans hJ_3) (Zb h10 (rfl))),sl⟩ (mN hlt_2) Kr (sb 6))))))))
          · have hd_2:=XL h5
            refine TC.exit (TE.et (TE.et (TE.exit_same ?_)))
            exact TE.cut (out,A_out,c_out) (⟨hI_2.trans (by subst hr2;rw [hd_2];exact rfl),sl⟩) Kr (sb 1)
        · rintro ⟨out_2,A_out_2,c_out_2⟩ ⟨hJ_2,hl_out_2⟩
          refine TE.nr (TL.r 3 [] [(4,.slice A_out_2 out_2.length c_out_2),(5,.i 0)] {} (TL.next rfl (TC.ret ?_)))
          have e:Xc l band=(out_2,0):=by subst hr2;unfold Xc;exact Zb h1 (XI (hR.symm.trans hJ) (Zb h4 (Ye (hR_2.symm.trans hJ_2) (rfl))))
          rw [e]
          exact TE.retM (.inl rfl) (A_out_2,c_out_2) [] (.tuple #[.slice A_out_2 out_2.length c_out_2,.i 0]) {} rfl (fun _ hM=>hM.sub (sb 1))
end Go.Sky
end
section
namespace Go.Sky
open Go Go.Eng Go.Proofs
def QB (r_:Zw):Int :=
  let r1:=Xr r_.Need r_.Of
  cond (r1 != 0) (
    r1) (
    cond ((((((((decide (r_.Misses < 0)) || (decide (r_.Misses > 100))) || (decide (r_.Accel < 0))) || (decide (r_.Accel > 20))) || (decide (r_.Place < 0))) || (decide (r_.Place > 256))) || (decide (r_.Speed < 0))) || (decide (r_.Speed > 256))) (
      4) (
      0))
set_option maxRecDepth 100000 in
theorem Wq (r_:Zw) (w:World):Calls Tryz.prog 97 #[Zw.v r_] w (Ret w (.int .i64 (QB r_))):=by
  refine Zk (vs:=[Zw.v r_]) (w:=w) Tryz.func97 rfl Tryz.ntmps97 rfl (TC.sr (TL.nw 1 (fun b1=>.p0 b1) (fun b1=>Bk b1 (Zw.c r_) 114) (fun b1=>{}) (fun b1=>TL.r 2 [] [(2,.i 0)] {} (TL.ns (TC.sr (TL.r 4 [0,0] [(5,.i r_.Need),(7,.i r_.Of)] {} (TL.c 8 (Xr r_.Need r_.Of) (fun r1=>.i r1) (fun w _=>KV r_.Need r_.Of w) {} (fun r1 hr1=>TL.r 6 [] [(3,.i r1)] {} (TL.nr (TL.r 2 [] [(10,.b (r1 != 0))] {} (TL.next rfl (TC.cond (r1 != 0) rfl Kr (fun h1=>?_) (fun h1=>?_)))))))))))))
  · exact TC.sr (TL.r 2 [] [(2,.i r1)] {} (TL.next rfl (TC.ret (TE.rt (TE.ret [] (.i r1) {} (by unfold QB;refine eS (fun z=>(.i z:Value)) ?_;subst hr1;exact Zi h1 (rfl)))))))
  · refine TC.sn (TC.seq (TC.sr (TL.r 4 [0] [(15,.b (decide (r_.Misses < 0)))] {} (TL.j 15 (decide (r_.Misses < 0)) 8 [] [0] (fun β=>[(19,.b (β || (decide (r_.Misses > 100))))]) Kr {} {} (TL.r 9 [] [(20,.b ((decide (r_.Misses < 0)) || (decide (r_.Misses > 100))))] {} (TL.j 20 ((decide (r_.Misses < 0)) || (decide (r_.Misses > 100))) 13 [] [0] (fun β=>[(24,.b (β || (decide (r_.Accel < 0))))]) Kr {} {} (TL.r 14 [] [(25,.b (((decide (r_.Misses < 0)) || (decide (r_.Misses > 100))) || (decide (r_.Accel < 0))))] {} (TL.j 25 (((decide (r_.Misses < 0)) || (decide (r_.Misses > 100))) || (decide (r_.Accel < 0))) 18 [] [0] (fun β=>[(29,.b (β || (decide (r_.Accel > 20))))]) Kr {} {} (TL.r 19 [] [(30,.b ((((decide (r_.Misses < 0)) || (decide (r_.Misses > 100))) || (decide (r_.Accel < 0))) || (decide (r_.Accel > 20))))] {} (TL.j 30 ((((decide (r_.Misses < 0)) || (decide (r_.Misses > 100))) || (decide (r_.Accel < 0))) || (decide (r_.Accel > 20))) 23 [] [0] (fun β=>[(34,.b (β || (decide (r_.Place < 0))))]) Kr {} {} (TL.r 24 [] [(35,.b (((((decide (r_.Misses < 0)) || (decide (r_.Misses > 100))) || (decide (r_.Accel < 0))) || (decide (r_.Accel > 20))) || (decide (r_.Place < 0))))] {} (TL.j 35 (((((decide (r_.Misses < 0)) || (decide (r_.Misses > 100))) || (decide (r_.Accel < 0))) || (decide (r_.Accel > 20))) || (decide (r_.Place < 0))) 28 [] [0] (fun β=>[(39,.b (β || (decide (r_.Place > 256))))]) Kr {} {} (TL.r 29 [] [(40,.b ((((((decide (r_.Misses < 0)) || (decide (r_.Misses > 100))) || (decide (r_.Accel < 0))) || (decide (r_.Accel > 20))) || (decide (r_.Place < 0))) || (decide (r_.Place > 256))))] {} (TL.j 40 ((((((decide (r_.Misses < 0)) || (decide (r_.Misses > 100))) || (decide (r_.Accel < 0))) || (decide (r_.Accel > 20))) || (decide (r_.Place < 0))) || (decide (r_.Place > 256))) 33 [] [0] (fun β=>[(44,.b (β || (decide (r_.Speed < 0))))]) Kr {} {} (TL.r 34 [] [(45,.b (((((((decide (r_.Misses < 0)) || (decide (r_.Misses > 100))) || (decide (r_.Accel < 0))) || (decide (r_.Accel > 20))) || (decide (r_.Place < 0))) || (decide (r_.Place > 256))) || (decide (r_.Speed < 0))))] {} (TL.j 45 (((((((decide (r_.Misses < 0)) || (decide (r_.Misses > 100))) || (decide (r_.Accel < 0))) || (decide (r_.Accel > 20))) || (decide (r_.Place < 0))) || (decide (r_.Place > 256))) || (decide (r_.Speed < 0))) 38 [] [0] (fun β=>[(49,.b (β || (decide (r_.Speed > 256))))]) Kr {} {} (TL.next rfl (TC.cond ((((((((decide (r_.Misses < 0)) || (decide (r_.Misses > 100))) || (decide (r_.Accel < 0))) || (decide (r_.Accel > 20))) || (decide (r_.Place < 0))) || (decide (r_.Place > 256))) || (decide (r_.Speed < 0))) || (decide (r_.Speed > 256))) rfl Kr (fun h2=>?_) (fun h2=>?_)))))))))))))))))))
    · exact TC.sr (TL.r 1 [] [(2,.i 4)] {} (TL.next rfl (TC.ret (TE.rt (TE.ret [] (.i 4) {} (by unfold QB;refine eS (fun z=>(.i z:Value)) ?_;subst hr1;exact Zb h1 (Zi h2 (rfl))))))))
    · exact TC.snr (TL.r 1 [] [(2,.i 0)] {} (TL.next rfl (TC.ret (TE.ret [] (.i 0) {} (by unfold QB;refine eS (fun z=>(.i z:Value)) ?_;subst hr1;exact Zb h1 (Zb h2 (rfl)))))))
def Yg (r_:Zw):Ze × Int :=
  let r1:=QB r_
  cond (r1 != 0) (
    (Ze.zero,0)) (
    ((⟨r_,([]:List followed),0,(-1)⟩:Ze),0))
set_option maxRecDepth 100000 in
theorem U3 (r_:Zw) (w:World) (hM:Sat ⟨w,Xf []⟩ [] w) (hc:QB r_=0):Calls Tryz.prog 43 #[Zw.v r_] w (QK (Γ:=Nat × (Option Addr × Nat)) ⟨w,Xf []⟩ (fun g=>.tuple #[.pointer (some ⟨g.1,0,none⟩),.int .i64 ((Yg r_).2)]) (fun g=>[.inl (g.1,.cells (Ze.k (⟨⟨((Yg r_).1).rules.Need,((Yg r_).1).rules.Of,((Yg r_).1).rules.Misses,((Yg r_).1).rules.Accel,((Yg r_).1).rules.Place,((Yg r_).1).rules.Speed⟩,((Yg r_).1).all,((Yg r_).1).next,((Yg r_).1).last⟩:Ze) g.2.1 g.2.2) 118 (0,0)),.inr (Own g.2.1 g.2.2 122 23 ((((Yg r_).1).all).map followed.c))])):=by
  refine Yu (w0:=⟨w,Xf []⟩) (vs:=[Zw.v r_]) hM Tryz.func43 rfl Tryz.ntmps43 rfl (TC.sr (TL.nw 1 (fun b1=>.p0 b1) (fun b1=>Bk b1 (Zw.c r_) 114) (fun b1=>{}) (fun b1=>TL.r 3 [] [(2,.pointer none),(3,.i 0)] {} (TL.ns (TC.sr (TL.r 1 [0] [(5,Zw.v r_)] {} (TL.c 6 (QB r_) (fun r1=>.i r1) (fun w _=>Wq r_ w) {} (fun r1 hr1=>TL.r 3 [] [(4,.i r1)] {} (TL.nr (TL.r 2 [] [(8,.b (r1 != 0))] {} (TL.next rfl (TC.cond (r1 != 0) rfl Kr (fun h1=>?_) (fun h1=>?_)))))))))))))
  · exact ((by rw [hc] at hr1;subst hr1;cases h1):False).elim
  · refine TC.snr (TL.r 2 [0] [(11,.agg #[.i r_.Need,.i r_.Of,.i r_.Misses,.i r_.Accel,.i r_.Place,.i r_.Speed,.slice none 0 0,.i 0,.i (-1)])] {} (TL.nw 12 (fun b2=>.p0 b2) (fun b2=>Bk b2 (Ze.k (⟨r_,[],0,(-1)⟩:Ze) none 0) 118) (fun b2=>{}) (fun b2=>TL.r 5 [] [(2,.p0 b2),(3,.i 0)] {} (TL.next rfl (TC.ret (TE.conv [Ow none 0 122 23 (([]:List followed).map followed.c),Bk b2 (Ze.k (⟨r_,[],0,(-1)⟩:Ze) none 0) 118,Bk b1 (Zw.c r_) 114] (fun _ hM=>hM.emptyrow none 122 23) (TE.conv [Ow none 0 122 23 (([]:List followed).map followed.c),Bk b2 (Ze.k (⟨r_,([]:List followed),0,(-1)⟩:Ze) none 0) 118,Bk b1 (Zw.c r_) 114] (fun _ hM=>hM) ?_)))))))
    have e:Yg r_=((⟨r_,([]:List followed),0,(-1)⟩:Ze),0):=by subst hr1;unfold Yg;exact Zb h1 (rfl)
    refine TE.conv [Bk b2 (Ze.k (⟨r_,([]:List followed),0,(-1)⟩:Ze) none 0) 118,Ow none 0 122 23 (([]:List followed).map followed.c),Bk b1 (Zw.c r_) 114] (fun _ hM=>hM.perm (px [1,0,2])) ?_
    rw [e]
    exact TE.retM (.inl rfl) (b2,(none,0)) [] (.tuple #[.p0 b2,.i 0]) {} rfl (fun _ hM=>hM.sub (sb 3))
def Y5 (time:Int):List Zf → Nat → ((Unit) ⊕ (Int))
  | [],_=>.inl ()
  | x :: xs,k=>let r1:=Zy x
    cond (r1 != 0) (
      .inr r1) (
      cond (x.Time != time) (
        .inr 12) (
        Y5 time xs (k + 1)))
def ZI (t:Ze) (l:List Zf) (time:Int):Int :=
  cond (decide ((l.length:Int) > 32)) (
    2) (
    cond ((decide (time < 0)) || (decide (time > 200000))) (
      4) (
      cond (decide (time ≤ t.last)) (
        12) (
        Sum.elim (fun _ =>
          0) (fun r=>r) (Y5 time l 0))))
set_option maxHeartbeats 4000000 in
set_option maxRecDepth 100000 in
theorem Vm (a_t:Addr) (t:Ze) (A_t_all:Option Addr) (c_t_all:Nat) (A_l:Option Addr) (c_l:Nat) (l:List Zf) (time:Int) (w:World) (h_t:Rd w 9 (some a_t) [#[.int .i64 t.rules.Need,.int .i64 t.rules.Of,.int .i64 t.rules.Misses,.int .i64 t.rules.Accel,.int .i64 t.rules.Place,.int .i64 t.rules.Speed,.slice A_t_all t.all.length c_t_all,.int .i64 t.next,.int .i64 t.last]]) (hr_t_all:Rd w 23 A_t_all (t.all.map followed.c)) (_hl_t_all:t.all.length ≤ c_t_all) (h_l:Rd w 6 A_l (l.map Zf.c)) (_hc_l:l.length ≤ c_l):Calls Tryz.prog 50 #[.pointer (some a_t),.slice A_l l.length c_l,.int .i64 time] w (Ret w (.int .i64 (ZI t l time))):=by
  have s_t_all:=hr_t_all.short;rw [List.length_map] at s_t_all
  have s_l:=h_l.short;rw [List.length_map] at s_l
  refine Zk (vs:=[.pointer (some a_t),.slice A_l l.length c_l,.i time]) (w:=w) Tryz.func50 rfl Tryz.ntmps50 rfl (TC.sr (TL.r 1 [] [(6,.i 0)] {} (TL.ns (TC.block (TC.sr (TL.r 4 [] [(10,.b (decide ((l.length:Int) > 32)))] {} (TL.next rfl (TC.cond (decide ((l.length:Int) > 32)) rfl Kr (fun h1=>?_) (fun h1=>?_)))))))))
  · refine TC.sr (TL.r 1 [] [(6,.i 2)] {} (TL.next rfl (TC.ret (TE.rb (TE.rt ?_)))))
    exact TE.ret [] (.i 2) {} (by unfold ZI;refine eS (fun z=>(.i z:Value)) ?_;exact Zi h1 (rfl))
  · have q1_0:=(Zo h1)
    refine TC.sr (TL.r 3 [] [(17,.b (decide (time < 0)))] {} (TL.j 17 (decide (time < 0)) 6 [] [] (fun β=>[(20,.b (β || (decide (time > 200000))))]) Kr {} {} (TL.r 7 [] [(14,.b ((decide (time < 0)) || (decide (time > 200000))))] {} (TL.next rfl (TC.cond ((decide (time < 0)) || (decide (time > 200000))) rfl Kr (fun h2=>?_) (fun h2=>?_))))))
    · refine TC.sr (TL.r 1 [] [(6,.i 4)] {} (TL.next rfl (TC.ret (TE.rb (TE.rt ?_)))))
      exact TE.ret [] (.i 4) {} (by unfold ZI;refine eS (fun z=>(.i z:Value)) ?_;exact Zb h1 (Zi h2 (rfl)))
    · have q2_0:=(Zo (Zt h2))
      have q2_1:=(Zo (ZR h2))
      refine TC.sr (TL.r 4 [] [(22,.i time),(25,.pointer (some (a_t.add 8)))] {} (TL.v (sV (Instr.loadAt 3 (.pointer (some (a_t.add 8))))) 26 (.i t.last) (fun w hM=>Zs (off:=8) (.i t.last) (h_t.sat hM) (X9 _) Kr Kr) {} (TL.r 7 [] [(21,.b (decide (time ≤ t.last)))] {} (TL.next rfl (TC.cond (decide (time ≤ t.last)) rfl Kr (fun h3=>?_) (fun h3=>?_))))))
      · refine TC.sr (TL.r 1 [] [(6,.i 12)] {} (TL.next rfl (TC.ret (TE.rb (TE.rt ?_)))))
        exact TE.ret [] (.i 12) {} (by unfold ZI;refine eS (fun z=>(.i z:Value)) ?_;exact Zb h1 (Zb h2 (Zi h3 (rfl))))
      · have q3_0:=(Zo h3)
        refine TC.skip (TE.nb (TE.next (TC.seq (TC.sr (TL.r 3 [] [(28,.slice A_l l.length c_l),(29,.i (l.length:Int)),(30,.i 0)] {} (TL.next rfl ?_))))))
        obtain ⟨R1,hR⟩:∃ R,R=Y5 time l 0:=⟨_,rfl⟩
        refine TC.cut (S:=Unit) (fun (_:Unit)=>[]) (fun (_:Unit)=>[]) (fun (_:Unit)=>R1=.inl ()) ?_ ?_
        · refine TC.block (TC.lw (X:=Nat) (fun k=>[(2,.i time),(28,.slice A_l l.length c_l),(29,.i (l.length:Int)),(30,.i (k:Int))]) (fun k=>[]) (fun k=>l.length - k) (fun k=>k ≤ l.length ∧ R1=Y5 time (l.drop k) k) ?_ 0 ⟨Nat.zero_le _,hR⟩ Kr (sb 0))
          rintro k ⟨hk,hI⟩
          refine TC.sr (TL.r 1 [] [(31,.b (decide ((k:Int) < (l.length:Int))))] {} (TL.ns (TC.cond (decide ((k:Int) < (l.length:Int))) rfl Kr (fun h4=>?_) (fun h4=>?_))))
          · have hlt:=ltN h4
            obtain ⟨x,hx⟩:=elN hlt
            have hd:=drop_at hx
            refine TC.sn (TC.seq (TC.block (TC.sr (TL.v (sV (Instr.indexAt 52 (.slice A_l l.length c_l) (.i (k:Int)))) 32 (.pointer (some (Ix A_l (k * 6)))) (fun w hM=>Zr (h_l.sat hM) (by simp) Kr sd sd) {} (TL.v (sV (Instr.loadAt 42 (.pointer (some (Ix A_l (k * 6)))))) 33 (Zf.v x) (fun w hM=>Z6 (n:=6) (off:=0) (i:=k) (Zf.v x) (h_l.sat hM) (ZA hx) Kr Kr Kr) {} (TL.nw 8 (fun b1=>.p0 b1) (fun b1=>Bk b1 (Zf.c Zf.zero) 42) (fun b1=>{}) (fun b1=>TL.s 0 (Bk b1 (Zf.c x) 42) (fun _=>{}) (TL.ns (TC.sr (TL.r 1 [0] [(34,Zf.v x)] {} (TL.c 35 (Zy x) (fun r1=>.i r1) (fun w _=>Xl x w) {} (fun r1 hr1=>TL.r 3 [] [(9,.i r1)] {} (TL.nr (TL.r 2 [] [(37,.b (r1 != 0))] {} (TL.next rfl (TC.cond (r1 != 0) rfl Kr (fun h5=>?_) (fun h5=>?_)))))))))))))))))
            · refine TC.sr (TL.r 2 [] [(6,.i r1)] {} (TL.next rfl (TC.ret (TE.rt (TE.rb (TE.rt (TE.rt (TE.rb (TE.rt (TE.rt ?_))))))))))
              exact TE.ret [] (.i r1) {} (by unfold ZI;refine eS (fun z=>(.i z:Value)) ?_;subst hr1;exact Zb h1 (Zb h2 (Zb h3 (X7 (hR.symm.trans (hI.trans (by rw [hd];exact Zi h5 (rfl)))) rfl))))
            · have q5_0:=(QG h5)
              refine TC.snr (TL.r 4 [0] [(42,.b (x.Time != time))] {} (TL.next rfl (TC.cond (x.Time != time) rfl Kr (fun h6=>?_) (fun h6=>?_))))
              · refine TC.sr (TL.r 1 [] [(6,.i 12)] {} (TL.next rfl (TC.ret (TE.rb (TE.rt (TE.rt (TE.rb (TE.rt (TE.rt ?_)))))))))
                exact TE.ret [] (.i 12) {} (by unfold ZI;refine eS (fun z=>(.i z:Value)) ?_;subst hr1;exact Zb h1 (Zb h2 (Zb h3 (X7 (hR.symm.trans (hI.trans (by rw [hd];exact Zb h5 (Zi h6 (rfl))))) rfl))))
              · have q6_0:=(QG h6)
                exact TC.skip (TE.nb (TE.next (TC.region (TL.r 2 [] [(30,.i (w64 ((k:Int) + 1)))] {} (TL.done rfl (TE.rw 30 (.i (w64 ((k:Int) + 1))) (.i ((k + 1:Nat):Int)) Kr (ZD k (by omega)) (TE.again (x:=k) (k + 1) ⟨by omega,hI.trans (by subst hr1;rw [hd];exact Zb h5 (Zb h6 (rfl)))⟩ (mN hlt) Kr (sb 0))))))))
          · have hd:=XL h4
            refine TC.exit (TE.et (TE.et (TE.exit_same ?_)))
            exact TE.cut () (hI.trans (by rw [hd];exact rfl)) Kr (sb 0)
        · intro _ hJ
          exact TE.nr (TL.r 1 [] [(6,.i 0)] {} (TL.next rfl (TC.ret (TE.ret [] (.i 0) {} (by unfold ZI;refine eS (fun z=>(.i z:Value)) ?_;exact Zb h1 (Zb h2 (Zb h3 (XI (hR.symm.trans hJ) (rfl)))))))))
def XG:List followed → Nat → (List Za) → (List Za)
  | [],_,out=>out
  | x :: xs,k,out=>XG xs (k + 1) (out ++ ([x.f]))
def Qj (t:Ze):List Za :=
  Y3 (XG t.all 0 ([]:List Za)) (fun out_2 =>
    out_2)
set_option maxRecDepth 100000 in
theorem HN (a_t:Addr) (t:Ze) (A_t_all:Option Addr) (c_t_all:Nat) (w:World) (h_t:Rd w 9 (some a_t) [#[.int .i64 t.rules.Need,.int .i64 t.rules.Of,.int .i64 t.rules.Misses,.int .i64 t.rules.Accel,.int .i64 t.rules.Place,.int .i64 t.rules.Speed,.slice A_t_all t.all.length c_t_all,.int .i64 t.next,.int .i64 t.last]]) (hr_t_all:Rd w 23 A_t_all (t.all.map followed.c)) (_hl_t_all:t.all.length ≤ c_t_all) (hn:t.all.length ≤ 64):Calls Tryz.prog 18 #[.pointer (some a_t)] w (QK (Γ:=(Option Addr × Nat)) (cx w) (fun g=>.slice g.1 ((Qj t).length) g.2) (fun g=>[.inr (Own g.1 g.2 44 20 ((Qj t).map Za.c))])):=by
  have s_t_all:=hr_t_all.short;rw [List.length_map] at s_t_all
  refine Zk (vs:=[.pointer (some a_t)]) (w:=w) Tryz.func18 rfl Tryz.ntmps18 rfl (TC.sr (TL.r 1 [] [(2,.slice none 0 0)] {} (TL.nr (TL.r 1 [] [(3,.slice none 0 0)] {} (TL.ns (TC.sr (TL.r 3 [] [(8,.pointer (some (a_t.add 6)))] {} (TL.v (sV (Instr.loadAt 116 (.pointer (some (a_t.add 6))))) 9 (.slice A_t_all t.all.length c_t_all) (fun w hM=>Zs (off:=6) (.slice A_t_all t.all.length c_t_all) (h_t.sat hM) (X9 _) Kr Kr) {} (TL.r 6 [] [(10,.i (t.all.length:Int)),(11,.i 0)] {} (TL.next rfl (TC.conv [Ow none 0 44 20 (([]:List Za).map Za.c)] (fun _ hM=>hM.emptyrow none 44 20) ?_)))))))))))
  obtain ⟨R2,hR⟩:∃ R,R=XG t.all 0 ([]:List Za):=⟨_,rfl⟩
  refine TC.cut (S:=(List Za) × (Option Addr) × Nat) (fun (out_2,A_out_2,c_out_2)=>[(3,.slice A_out_2 out_2.length c_out_2)]) (fun (out_2,A_out_2,c_out_2)=>[Ow A_out_2 c_out_2 44 20 (out_2.map Za.c)]) (fun (out_2,A_out_2,c_out_2)=>R2=out_2 ∧ out_2.length ≤ t.all.length) ?_ ?_
  · refine TC.block (TC.lw (X:=Nat × (List Za) × (Option Addr) × Nat) (fun (k,out,A_out,c_out)=>[(3,.slice A_out out.length c_out),(9,.slice A_t_all t.all.length c_t_all),(10,.i (t.all.length:Int)),(11,.i (k:Int))]) (fun (k,out,A_out,c_out)=>[Ow A_out c_out 44 20 (out.map Za.c)]) (fun (k,out,A_out,c_out)=>t.all.length - k) (fun (k,out,A_out,c_out)=>k ≤ t.all.length ∧ R2=XG (t.all.drop k) k out ∧ out.length ≤ k) ?_ (0,([]:List Za),none,0) ⟨Nat.zero_le _,hR,sz⟩ Kr (sb 1))
    rintro ⟨k,out,A_out,c_out⟩ ⟨hk,hI,hl_out⟩
    refine TC.sr (TL.r 1 [] [(12,.b (decide ((k:Int) < (t.all.length:Int))))] {} (TL.ns (TC.cond (decide ((k:Int) < (t.all.length:Int))) rfl Kr (fun h1=>?_) (fun h1=>?_))))
    · have hlt:=ltN h1
      obtain ⟨x,hx⟩:=elN hlt
      have hd:=drop_at hx
      refine TC.sn (TC.seq (TC.block (TC.sr (TL.v (sV (Instr.indexAt 116 (.slice A_t_all t.all.length c_t_all) (.i (k:Int)))) 13 (.pointer (some (Ix A_t_all (k * 23)))) (fun w hM=>Zr (hr_t_all.sat hM) (by simp) Kr sd sd) {} (TL.v (sV (Instr.loadAt 122 (.pointer (some (Ix A_t_all (k * 23)))))) 14 (followed.v x) (fun w hM=>Z6 (n:=23) (off:=0) (i:=k) (followed.v x) (hr_t_all.sat hM) (ZA hx) Kr Kr Kr) {} (TL.nw 5 (fun b1=>.p0 b1) (fun b1=>Bk b1 (followed.c followed.zero) 122) (fun b1=>{}) (fun b1=>TL.s 0 (Bk b1 (followed.c x) 122) (fun _=>{}) (TL.next rfl (TC.region (TL.r 3 [0] [(15,.slice A_out out.length c_out),(17,Za.v x.f)] {} (TL.nw 18 (fun b2=>.slice (Pa b2) 1 1) (fun b2=>Bk b2 (Za.c x.f) 44) (fun b2=>{}) (fun b2=>TL.os (Γ:=AN) (sV (Builtin.append_ #[31,31] 31 #[.slice A_out out.length c_out,.slice (Pa b2) 1 1])) 19 (fun g=>.slice g.1 (out ++ ([x.f])).length g.2) 2 (fun g=>Ow g.1 g.2 44 20 ((out ++ ([x.f])).map Za.c)) (Qq (bytes:=160) 31 2 ([x.f]) Kr rfl rfl Za.one rfl (fun w hM=>(Rd.lit hM 0 _ rfl Kr Kr Kr)) rfl sa) {} ?_))))))))))))
      rintro ⟨A,c⟩
      exact TL.r 6 [] [(3,.slice A ((out ++ ([x.f])).length) c)] {} (TL.done rfl (TE.nb (TE.next (TC.region (TL.r 2 [] [(11,.i (w64 ((k:Int) + 1)))] {} (TL.done rfl (TE.rw 11 (.i (w64 ((k:Int) + 1))) (.i ((k + 1:Nat):Int)) Kr (ZD k (by omega)) (TE.again (x:=(k,out,A_out,c_out)) (k + 1,(out ++ ([x.f])),A,c) ⟨by omega,hI.trans (by rw [hd];exact rfl),sl⟩ (mN hlt) Kr (sb 4)))))))))
    · have hd:=XL h1
      refine TC.exit (TE.et (TE.et (TE.exit_same ?_)))
      exact TE.cut (out,A_out,c_out) (⟨hI.trans (by rw [hd];exact rfl),sl⟩) Kr (sb 1)
  · rintro ⟨out_2,A_out_2,c_out_2⟩ ⟨hJ,hl_out_2⟩
    refine TE.nr (TL.r 2 [] [(2,.slice A_out_2 out_2.length c_out_2)] {} (TL.next rfl (TC.ret ?_)))
    have e:Qj t=out_2:=by unfold Qj;exact Ye (hR.symm.trans hJ) (rfl)
    rw [e]
    exact TE.retM (.inl rfl) (A_out_2,c_out_2) [] (.slice A_out_2 out_2.length c_out_2) {} rfl (fun _ hM=>hM.sub (sb 1))
def Y9 (t:Ze) (time:Int):List followed → Nat → (List Za) → (List Za)
  | [],_,out=>out
  | x :: xs,k,out=>let r1:=Zq x.f time t.rules.Accel
    cond (r1.2 == 0) (
      Y9 t time xs (k + 1) (out ++ ([r1.1]))) (
      Y9 t time xs (k + 1) out)
def Yd (t:Ze) (time:Int):List Za × Int :=
  cond ((decide (time < 0)) || (decide (time > 200000))) (
    ([],4)) (
    cond (decide (time < t.last)) (
      ([],12)) (
      Y3 (Y9 t time t.all 0 ([]:List Za)) (fun out_2 =>
        (out_2,0))))
set_option maxHeartbeats 4000000 in
set_option maxRecDepth 100000 in
theorem VT (a_t:Addr) (t:Ze) (A_t_all:Option Addr) (c_t_all:Nat) (time:Int) (w:World) (h_t:Rd w 9 (some a_t) [#[.int .i64 t.rules.Need,.int .i64 t.rules.Of,.int .i64 t.rules.Misses,.int .i64 t.rules.Accel,.int .i64 t.rules.Place,.int .i64 t.rules.Speed,.slice A_t_all t.all.length c_t_all,.int .i64 t.next,.int .i64 t.last]]) (hr_t_all:Rd w 23 A_t_all (t.all.map followed.c)) (_hl_t_all:t.all.length ≤ c_t_all) (hn:t.all.length ≤ 64):Calls Tryz.prog 14 #[.pointer (some a_t),.int .i64 time] w (QK (Γ:=(Option Addr × Nat)) (cx w) (fun g=>.tuple #[.slice g.1 ((Yd t time).1.length) g.2,.int .i64 ((Yd t time).2)]) (fun g=>[.inr (Own g.1 g.2 44 20 (((Yd t time).1).map Za.c))])):=by
  have s_t_all:=hr_t_all.short;rw [List.length_map] at s_t_all
  refine Zk (vs:=[.pointer (some a_t),.i time]) (w:=w) Tryz.func14 rfl Tryz.ntmps14 rfl (TC.sr (TL.r 2 [] [(4,.slice none 0 0),(5,.i 0)] {} (TL.ns (TC.block (TC.sr (TL.r 3 [] [(14,.b (decide (time < 0)))] {} (TL.j 14 (decide (time < 0)) 6 [] [] (fun β=>[(17,.b (β || (decide (time > 200000))))]) Kr {} {} (TL.r 7 [] [(11,.b ((decide (time < 0)) || (decide (time > 200000))))] {} (TL.next rfl (TC.cond ((decide (time < 0)) || (decide (time > 200000))) rfl Kr (fun h1=>?_) (fun h1=>?_)))))))))))
  · refine TC.sr (TL.r 2 [] [(4,.slice none 0 0),(5,.i 4)] {} (TL.next rfl (TC.ret (TE.rb (TE.rt ?_)))))
    have e:Yd t time=([],4):=by unfold Yd;exact Zi h1 (rfl)
    refine TE.conv [Ow none 0 44 20 (([]:List Za).map Za.c)] (fun _ hM=>hM.emptyrow none 44 20) ?_
    rw [e]
    exact TE.retM (.inl rfl) (none,0) [] (.tuple #[.slice none 0 0,.i 4]) {} rfl (fun _ hM=>hM.sub (sb 1))
  · have q1_0:=(Zo (Zt h1))
    have q1_1:=(Zo (ZR h1))
    refine TC.sr (TL.r 4 [] [(19,.i time),(22,.pointer (some (a_t.add 8)))] {} (TL.v (sV (Instr.loadAt 3 (.pointer (some (a_t.add 8))))) 23 (.i t.last) (fun w hM=>Zs (off:=8) (.i t.last) (h_t.sat hM) (X9 _) Kr Kr) {} (TL.r 7 [] [(18,.b (decide (time < t.last)))] {} (TL.next rfl (TC.cond (decide (time < t.last)) rfl Kr (fun h2=>?_) (fun h2=>?_))))))
    · refine TC.sr (TL.r 2 [] [(4,.slice none 0 0),(5,.i 12)] {} (TL.next rfl (TC.ret (TE.rb (TE.rt ?_)))))
      have e:Yd t time=([],12):=by unfold Yd;exact Zb h1 (Zi h2 (rfl))
      refine TE.conv [Ow none 0 44 20 (([]:List Za).map Za.c)] (fun _ hM=>hM.emptyrow none 44 20) ?_
      rw [e]
      exact TE.retM (.inl rfl) (none,0) [] (.tuple #[.slice none 0 0,.i 12]) {} rfl (fun _ hM=>hM.sub (sb 1))
    · have q2_0:=(Zo h2)
      refine TC.skip (TE.nb (TE.nr (TL.r 1 [] [(6,.slice none 0 0)] {} (TL.ns (TC.sr (TL.r 3 [] [(27,.pointer (some (a_t.add 6)))] {} (TL.v (sV (Instr.loadAt 116 (.pointer (some (a_t.add 6))))) 28 (.slice A_t_all t.all.length c_t_all) (fun w hM=>Zs (off:=6) (.slice A_t_all t.all.length c_t_all) (h_t.sat hM) (X9 _) Kr Kr) {} (TL.r 6 [] [(29,.i (t.all.length:Int)),(30,.i 0)] {} (TL.next rfl (TC.conv [Ow none 0 44 20 (([]:List Za).map Za.c)] (fun _ hM=>hM.emptyrow none 44 20) ?_))))))))))
      obtain ⟨R4,hR⟩:∃ R,R=Y9 t time t.all 0 ([]:List Za):=⟨_,rfl⟩
      refine TC.cut (S:=(List Za) × (Option Addr) × Nat) (fun (out_2,A_out_2,c_out_2)=>[(6,.slice A_out_2 out_2.length c_out_2)]) (fun (out_2,A_out_2,c_out_2)=>[Ow A_out_2 c_out_2 44 20 (out_2.map Za.c)]) (fun (out_2,A_out_2,c_out_2)=>R4=out_2 ∧ out_2.length ≤ t.all.length) ?_ ?_
      · refine TC.block (TC.lw (X:=Nat × (List Za) × (Option Addr) × Nat) (fun (k,out,A_out,c_out)=>[(0,.pointer (some a_t)),(1,.i time),(6,.slice A_out out.length c_out),(28,.slice A_t_all t.all.length c_t_all),(29,.i (t.all.length:Int)),(30,.i (k:Int))]) (fun (k,out,A_out,c_out)=>[Ow A_out c_out 44 20 (out.map Za.c)]) (fun (k,out,A_out,c_out)=>t.all.length - k) (fun (k,out,A_out,c_out)=>k ≤ t.all.length ∧ R4=Y9 t time (t.all.drop k) k out ∧ out.length ≤ k) ?_ (0,([]:List Za),none,0) ⟨Nat.zero_le _,hR,sz⟩ Kr (sb 1))
        rintro ⟨k,out,A_out,c_out⟩ ⟨hk,hI,hl_out⟩
        refine TC.sr (TL.r 1 [] [(31,.b (decide ((k:Int) < (t.all.length:Int))))] {} (TL.ns (TC.cond (decide ((k:Int) < (t.all.length:Int))) rfl Kr (fun h3=>?_) (fun h3=>?_))))
        · have hlt:=ltN h3
          obtain ⟨x,hx⟩:=elN hlt
          have hd:=drop_at hx
          refine TC.sn (TC.seq (TC.block (TC.sr (TL.v (sV (Instr.indexAt 116 (.slice A_t_all t.all.length c_t_all) (.i (k:Int)))) 32 (.pointer (some (Ix A_t_all (k * 23)))) (fun w hM=>Zr (hr_t_all.sat hM) (by simp) Kr sd sd) {} (TL.v (sV (Instr.loadAt 122 (.pointer (some (Ix A_t_all (k * 23)))))) 33 (followed.v x) (fun w hM=>Z6 (n:=23) (off:=0) (i:=k) (followed.v x) (hr_t_all.sat hM) (ZA hx) Kr Kr Kr) {} (TL.nw 8 (fun b1=>.p0 b1) (fun b1=>Bk b1 (followed.c followed.zero) 122) (fun b1=>{}) (fun b1=>TL.s 0 (Bk b1 (followed.c x) 122) (fun _=>{}) (TL.ns ?_))))))))
          obtain ⟨r1,hr1⟩:∃ r,Zq x.f time t.rules.Accel=r:=⟨_,rfl⟩
          let Mr9_:Mem:=[Bk b1 (followed.c x) 122,Ow A_out c_out 44 20 (out.map Za.c)]
          refine TC.plan (G:=Nat) (base:=[(0,.pointer (some a_t)),(1,.i time),(6,.slice A_out out.length c_out),(8,.p0 b1),(28,.slice A_t_all t.all.length c_t_all),(29,.i (t.all.length:Int)),(30,.i (k:Int))]) (vals:=fun γ=>[.p0 b1,Za.v x.f,.i time,.pointer (some a_t),.pointer (some a_t),.pointer (some a_t),.pointer (some (a_t.add 3)),.i t.rules.Accel,.tuple #[Za.v r1.1,.i r1.2],.tuple #[Za.v r1.1,.i r1.2],Za.v r1.1,.i r1.2,.p0 γ,undef,.i r1.2]) (writes:=[12,13]) (mem:=fun bs γ=>match bs with | [x12_,x13_]=>(bif x13_ then [Bk γ (Za.c r1.1) 44] else bif x12_ then [Bk γ (Za.c Za.zero) 44] else []) ++ (Mr9_) | _=>[]) (0) (fun γ=>[(0,.pointer (some a_t)),(1,.i time),(6,.slice A_out out.length c_out),(9,.p0 γ),(10,.i r1.2),(28,.slice A_t_all t.all.length c_t_all),(29,.i (t.all.length:Int)),(30,.i (k:Int))]) Kr Kr Kr Kr Kr (fun γ=>Kr) (fun _ hM=>hM) (fun γ=>Kr) ?_ ?_
          · skip
            exact Steps.run (i:=0) 7 [0,0,0,0,0,0,0] Mr9_ Kr Kr (fun S (γ:Nat) w hM=>by rw [mS2 rfl rfl] at hM;exact hM.sub (Zj (List.Sublist.refl _))) Kr (fun (γ:Nat)=>{}) (Steps.val (i:=7) (fun (γ:Nat)=>sV (Instr.loadAt 3 (.pointer (some (a_t.add 3))))) (some 42) (fun (γ:Nat)=>.i t.rules.Accel) (fun _=>Mr9_) Kr (fun S (γ:Nat) w _ hM=>by rw [mS2 rfl rfl] at hM;exact hM.sub (Zj (List.Sublist.refl _))) (fun (γ:Nat) w hM=>Zs (off:=3) (.i t.rules.Accel) (h_t.sat hM) (X9 _) Kr Kr) (fun (γ:Nat)=>Kr) (fun (γ:Nat)=>Kr) (Steps.call (i:=8) 45 (fun (γ:Nat)=>#[Za.v x.f,.i time,.i t.rules.Accel]) (some 43) (fun (γ:Nat)=>.tuple #[Za.v r1.1,.i r1.2]) (fun (γ:Nat)=>[Bk b1 (followed.c x) 122,Ow A_out c_out 44 20 (out.map Za.c)]) Kr (fun S (γ:Nat) w _ hM=>by rw [mS2 rfl rfl] at hM;exact hM.sub (Zj (List.Sublist.refl _))) (fun (γ:Nat) w _=>by have h:=JK x.f time t.rules.Accel w;rw [hr1] at h;exact h) (fun (γ:Nat)=>Kr) (fun (γ:Nat)=>Kr) (Steps.run (i:=9) 12 [0,0,0] Mr9_ Kr Kr (fun S (γ:Nat) w hM=>by rw [mS2 rfl rfl] at hM;exact hM.sub (Zj (List.Sublist.refl _))) Kr (fun (γ:Nat)=>{}) (Steps.op (i:=12) (Γ:=Nat) (fun g (γ:Nat)=>g) (fun _=>[]) (fun b (γ:Nat)=>[Bk b (Za.c Za.zero) 44]) (fun S (γ:Nat)=>Mr9_) [12,13,14] (fun (γ:Nat)=>sV (Instr.alloc 44 true (.tuple #[]))) (some 9) (fun b (γ:Nat)=>.p0 b) (fun S (γ:Nat) hj hd hl=>by rw [mS2 hj (hl 13 Kr)];exact List.Perm.refl _) (fun S (γ:Nat) g hl=>by rw [mS2 (S:=upS S 12) (a0:=12) (a1:=13) rfl (hl 13 Kr)];exact (List.Perm.refl _).symm) (fun (γ:Nat) M' w hM=>Qx (v:=fun b=>.p0 b) (fun b M=>Kr) M' w hM) (fun (γ:Nat)=>Kr) (fun (γ:Nat) g=>Kr) Kr (fun (γ:Nat) g=>Kr) (Steps.put (i:=13) (fun (γ:Nat)=>[Bk γ (Za.c Za.zero) 44]) (fun (γ:Nat)=>[Bk γ (Za.c r1.1) 44]) (fun S (γ:Nat)=>Mr9_) (fun (γ:Nat)=>sU (Instr.storeAt 44 (.p0 γ) (Za.v r1.1))) none (fun S (γ:Nat) hj hd hl=>by rw [mS2 (hd 12 Kr) hj];exact List.Perm.refl _) (fun S (γ:Nat) _=>(List.Perm.refl _).symm) (fun (γ:Nat) M' w hM=>QP (fun b M=>Kr) (fun b M=>Kr) M' w hM) (fun (γ:Nat)=>Kr) (fun (γ:Nat)=>Kr) (Steps.run (i:=14) 15 [0] Mr9_ Kr Kr (fun S (γ:Nat) w hM=>by rw [mS2 rfl rfl] at hM;exact hM.sub (Zj (List.Sublist.refl _))) Kr (fun (γ:Nat)=>{}) (Steps.done Kr)))))))
          · rintro b2
            refine TE.conv [Bk b2 (Za.c r1.1) 44,Bk b1 (followed.c x) 122,Ow A_out c_out 44 20 (out.map Za.c)] (fun _ hM=>hM) (TE.nr (TL.r 2 [] [(47,.b (r1.2 == 0))] {} (TL.next rfl (TC.cond (r1.2 == 0) rfl Kr (fun h4=>?_) (fun h4=>?_)))))
            · have q4_0:=(Yx h4)
              refine TC.region (TL.r 2 [0] [(48,.slice A_out out.length c_out),(49,Za.v r1.1)] {} (TL.nw 50 (fun b3=>.slice (Pa b3) 1 1) (fun b3=>Bk b3 (Za.c r1.1) 44) (fun b3=>{}) (fun b3=>TL.os (Γ:=AN) (sV (Builtin.append_ #[31,31] 31 #[.slice A_out out.length c_out,.slice (Pa b3) 1 1])) 51 (fun g=>.slice g.1 (out ++ ([r1.1])).length g.2) 3 (fun g=>Ow g.1 g.2 44 20 ((out ++ ([r1.1])).map Za.c)) (Qq (bytes:=160) 31 3 ([r1.1]) Kr rfl rfl Za.one rfl (fun w hM=>(Rd.lit hM 0 _ rfl Kr Kr Kr)) rfl sa) {} ?_)))
              rintro ⟨A,c⟩
              exact TL.r 5 [] [(6,.slice A ((out ++ ([r1.1])).length) c)] {} (TL.done rfl (TE.nb (TE.next (TC.region (TL.r 2 [] [(30,.i (w64 ((k:Int) + 1)))] {} (TL.done rfl (TE.rw 30 (.i (w64 ((k:Int) + 1))) (.i ((k + 1:Nat):Int)) Kr (ZD k (by omega)) (TE.again (x:=(k,out,A_out,c_out)) (k + 1,(out ++ ([r1.1])),A,c) ⟨by omega,hI.trans (by subst hr1;rw [hd];exact Zi h4 (rfl)),sl⟩ (mN hlt) Kr (sb 8)))))))))
            · have q4_0:=(ZN h4)
              exact TC.skip (TE.nb (TE.next (TC.region (TL.r 2 [] [(30,.i (w64 ((k:Int) + 1)))] {} (TL.done rfl (TE.rw 30 (.i (w64 ((k:Int) + 1))) (.i ((k + 1:Nat):Int)) Kr (ZD k (by omega)) (TE.again (x:=(k,out,A_out,c_out)) (k + 1,out,A_out,c_out) ⟨by omega,hI.trans (by subst hr1;rw [hd];exact Zb h4 (rfl)),sl⟩ (mN hlt) Kr (sb 4))))))))
        · have hd:=XL h3
          refine TC.exit (TE.et (TE.et (TE.exit_same ?_)))
          exact TE.cut (out,A_out,c_out) (⟨hI.trans (by rw [hd];exact rfl),sl⟩) Kr (sb 1)
      · rintro ⟨out_2,A_out_2,c_out_2⟩ ⟨hJ,hl_out_2⟩
        refine TE.nr (TL.r 3 [] [(4,.slice A_out_2 out_2.length c_out_2),(5,.i 0)] {} (TL.next rfl (TC.ret ?_)))
        have e:Yd t time=(out_2,0):=by unfold Yd;exact Zb h1 (Zb h2 (Ye (hR.symm.trans hJ) (rfl)))
        rw [e]
        exact TE.retM (.inl rfl) (A_out_2,c_out_2) [] (.tuple #[.slice A_out_2 out_2.length c_out_2,.i 0]) {} rfl (fun _ hM=>hM.sub (sb 1))
def Zu (t:Ze):List followed → Nat → (List followed) → (List followed)
  | [],_,stay=>stay
  | x :: xs,k,stay=>cond (x.f.Track.State == 0) (
      let r1:=QA x.history x.hit t.rules.Need t.rules.Of
      cond (r1.2.1 == 2) (
        Zu t xs (k + 1) stay) (
        cond (r1.2.1 == 1) (
          Zu t xs (k + 1) (stay ++ ([(⟨⟨⟨x.f.Track.ID,1,x.f.Track.Time,x.f.Track.At,x.f.Track.Speed,x.f.Track.Height,x.f.Track.Rate,x.f.Track.Radius,x.f.Track.Code,x.f.Track.Hits,x.f.Track.Misses⟩,x.f.Slack,x.f.Last⟩,r1.1,x.hit⟩:followed)]))) (
          Zu t xs (k + 1) (stay ++ ([(⟨x.f,r1.1,x.hit⟩:followed)]))))) (
      Zu t xs (k + 1) (stay ++ ([x])))
def Zv (t:Ze):Ze :=
  Y3 (Zu t t.all 0 ([]:List followed)) (fun stay_2 =>
    (⟨t.rules,stay_2,t.next,t.last⟩:Ze))
set_option maxRecDepth 100000 in
theorem KP (b_t:Nat) (t:Ze) (A_t_all:Option Addr) (c_t_all:Nat) (w:World) (hM:Sat ⟨w,Xf [.inl (b_t,.cells (Ze.k t A_t_all c_t_all) 118 (0,0)),.inr (Own A_t_all c_t_all 122 23 (t.all.map followed.c))]⟩ [.inl (b_t,.cells (Ze.k t A_t_all c_t_all) 118 (0,0)),.inr (Own A_t_all c_t_all 122 23 (t.all.map followed.c))] w) (hn:t.all.length ≤ 64):Calls Tryz.prog 57 #[.pointer (some ⟨b_t,0,none⟩)] w (QK (Γ:=(Option Addr × Nat)) ⟨w,Xf [.inl (b_t,.cells (Ze.k t A_t_all c_t_all) 118 (0,0)),.inr (Own A_t_all c_t_all 122 23 (t.all.map followed.c))]⟩ (fun _=>.tuple #[]) (fun g=>[.inl (b_t,.cells (Ze.k (⟨⟨(Zv t).rules.Need,(Zv t).rules.Of,(Zv t).rules.Misses,(Zv t).rules.Accel,(Zv t).rules.Place,(Zv t).rules.Speed⟩,(Zv t).all,(Zv t).next,(Zv t).last⟩:Ze) g.1 g.2) 118 (0,0)),.inr (Own g.1 g.2 122 23 (((Zv t).all).map followed.c))])):=by
  refine Yu (w0:=⟨w,Xf [Bk b_t (Ze.k t A_t_all c_t_all) 118,Ow A_t_all c_t_all 122 23 (t.all.map followed.c)]⟩) (vs:=[.p0 b_t]) hM Tryz.func57 rfl Tryz.ntmps57 rfl (TC.know (fun w hM=>hM.short_at 1 rfl) (fun s_t_all=>TC.sr (TL.r 1 [] [(2,.slice none 0 0)] {} (TL.ns (TC.sr (TL.r 6 [0] [(11,.slice A_t_all t.all.length c_t_all),(12,.i (t.all.length:Int)),(13,.i 0)] {} (TL.next rfl (TC.conv [Ow none 0 122 23 (([]:List followed).map followed.c),Bk b_t (Ze.k t A_t_all c_t_all) 118,Ow A_t_all c_t_all 122 23 (t.all.map followed.c)] (fun _ hM=>hM.emptyrow none 122 23) ?_))))))))
  obtain ⟨R2,hR⟩:∃ R,R=Zu t t.all 0 ([]:List followed):=⟨_,rfl⟩
  refine TC.cut (S:=(List followed) × (Option Addr) × Nat) (fun (stay_2,A_stay_2,c_stay_2)=>[(0,.p0 b_t),(2,.slice A_stay_2 stay_2.length c_stay_2)]) (fun (stay_2,A_stay_2,c_stay_2)=>[Ow A_stay_2 c_stay_2 122 23 (stay_2.map followed.c),Bk b_t (Ze.k t A_t_all c_t_all) 118,Ow A_t_all c_t_all 122 23 (t.all.map followed.c)]) (fun (stay_2,A_stay_2,c_stay_2)=>R2=stay_2 ∧ stay_2.length ≤ t.all.length) ?_ ?_
  · refine TC.block (TC.lw (X:=Nat × (List followed) × (Option Addr) × Nat) (fun (k,stay,A_stay,c_stay)=>[(0,.p0 b_t),(2,.slice A_stay stay.length c_stay),(11,.slice A_t_all t.all.length c_t_all),(12,.i (t.all.length:Int)),(13,.i (k:Int))]) (fun (k,stay,A_stay,c_stay)=>[Ow A_stay c_stay 122 23 (stay.map followed.c),Bk b_t (Ze.k t A_t_all c_t_all) 118,Ow A_t_all c_t_all 122 23 (t.all.map followed.c)]) (fun (k,stay,A_stay,c_stay)=>t.all.length - k) (fun (k,stay,A_stay,c_stay)=>k ≤ t.all.length ∧ R2=Zu t (t.all.drop k) k stay ∧ stay.length ≤ k) ?_ (0,([]:List followed),none,0) ⟨Nat.zero_le _,hR,sz⟩ Kr (sb 7))
    rintro ⟨k,stay,A_stay,c_stay⟩ ⟨hk,hI,hl_stay⟩
    refine TC.sr (TL.r 1 [] [(14,.b (decide ((k:Int) < (t.all.length:Int))))] {} (TL.ns (TC.cond (decide ((k:Int) < (t.all.length:Int))) rfl Kr (fun h1=>?_) (fun h1=>?_))))
    · have hlt:=ltN h1
      obtain ⟨x,hx⟩:=elN hlt
      have hd:=drop_at hx
      refine TC.sn (TC.seq (TC.block (TC.sr (TL.v (sV (Instr.indexAt 116 (.slice A_t_all t.all.length c_t_all) (.i (k:Int)))) 15 (.pointer (some (Ix A_t_all (k * 23)))) (fun w hM=>Zr (hM.rd_at 2 rfl) (by simp) Kr sd sd) {} (TL.v (sV (Instr.loadAt 122 (.pointer (some (Ix A_t_all (k * 23)))))) 16 (followed.v x) (fun w hM=>Z6 (n:=23) (off:=0) (i:=k) (followed.v x) (hM.rd_at 2 rfl) (ZA hx) Kr Kr Kr) {} (TL.nw 4 (fun b1=>.p0 b1) (fun b1=>Bk b1 (followed.c followed.zero) 122) (fun b1=>{}) (fun b1=>TL.s 0 (Bk b1 (followed.c x) 122) (fun _=>{}) (TL.ns (TC.sr (TL.r 5 [0] [(21,.b (x.f.Track.State == 0))] {} (TL.next rfl (TC.cond (x.f.Track.State == 0) rfl Kr (fun h2=>?_) (fun h2=>?_)))))))))))))
      · have q2_0:=(Yx h2)
        refine TC.seq ?_
        obtain ⟨r1,hr1⟩:∃ r,QA x.history x.hit t.rules.Need t.rules.Of=r:=⟨_,rfl⟩
        let Mr5_:Mem:=[Bk b1 (followed.c x) 122,Ow A_stay c_stay 122 23 (stay.map followed.c),Bk b_t (Ze.k t A_t_all c_t_all) 118,Ow A_t_all c_t_all 122 23 (t.all.map followed.c)]
        refine TC.plan (G:=Nat) (base:=[(0,.p0 b_t),(2,.slice A_stay stay.length c_stay),(4,.p0 b1),(11,.slice A_t_all t.all.length c_t_all),(12,.i (t.all.length:Int)),(13,.i (k:Int))]) (vals:=fun γ=>[.pt b1 20,Zc.v x.history,.pt b1 22,.b x.hit,.p0 b_t,.p0 b_t,.p0 b_t,.p0 b_t,.i t.rules.Need,.p0 b_t,.p0 b_t,.p0 b_t,.pt b_t 1,.i t.rules.Of,.tuple #[Zc.v r1.1,.i r1.2.1,.i r1.2.2],.tuple #[Zc.v r1.1,.i r1.2.1,.i r1.2.2],Zc.v r1.1,.i r1.2.1,.i r1.2.2,.p0 γ,undef,.i r1.2.1,.i r1.2.2]) (writes:=[19,20]) (mem:=fun bs γ=>match bs with | [x19_,x20_]=>(bif x20_ then [Bk γ (Zc.c r1.1) 120] else bif x19_ then [Bk γ (Zc.c Zc.zero) 120] else []) ++ (Mr5_) | _=>[]) (0) (fun γ=>[(0,.p0 b_t),(2,.slice A_stay stay.length c_stay),(4,.p0 b1),(5,.p0 γ),(6,.i r1.2.1),(11,.slice A_t_all t.all.length c_t_all),(12,.i (t.all.length:Int)),(13,.i (k:Int))]) Kr Kr Kr Kr Kr (fun γ=>Kr) (fun _ hM=>hM) (fun γ=>Kr) ?_ ?_
        · skip
          exact Steps.run (i:=0) 14 [0,0,0,0,0,0,0,0,2,0,0,0,0,2] Mr5_ Kr Kr (fun S (γ:Nat) w hM=>by rw [mS2 rfl rfl] at hM;exact hM.sub (Zj (List.Sublist.refl _))) Kr (fun (γ:Nat)=>{}) (Steps.call (i:=14) 113 (fun (γ:Nat)=>#[Zc.v x.history,.b x.hit,.i t.rules.Need,.i t.rules.Of]) (some 37) (fun (γ:Nat)=>.tuple #[Zc.v r1.1,.i r1.2.1,.i r1.2.2]) (fun (γ:Nat)=>[Bk b1 (followed.c x) 122,Ow A_stay c_stay 122 23 (stay.map followed.c),Bk b_t (Ze.k t A_t_all c_t_all) 118,Ow A_t_all c_t_all 122 23 (t.all.map followed.c)]) Kr (fun S (γ:Nat) w _ hM=>by rw [mS2 rfl rfl] at hM;exact hM.sub (Zj (List.Sublist.refl _))) (fun (γ:Nat) w _=>by have h:=BU x.history x.hit t.rules.Need t.rules.Of w;rw [hr1] at h;exact h) (fun (γ:Nat)=>Kr) (fun (γ:Nat)=>Kr) (Steps.run (i:=15) 19 [0,0,0,0] Mr5_ Kr Kr (fun S (γ:Nat) w hM=>by rw [mS2 rfl rfl] at hM;exact hM.sub (Zj (List.Sublist.refl _))) Kr (fun (γ:Nat)=>{}) (Steps.op (i:=19) (Γ:=Nat) (fun g (γ:Nat)=>g) (fun _=>[]) (fun b (γ:Nat)=>[Bk b (Zc.c Zc.zero) 120]) (fun S (γ:Nat)=>Mr5_) [19,20,21,22] (fun (γ:Nat)=>sV (Instr.alloc 120 true (.tuple #[]))) (some 5) (fun b (γ:Nat)=>.p0 b) (fun S (γ:Nat) hj hd hl=>by rw [mS2 hj (hl 20 Kr)];exact List.Perm.refl _) (fun S (γ:Nat) g hl=>by rw [mS2 (S:=upS S 19) (a0:=19) (a1:=20) rfl (hl 20 Kr)];exact (List.Perm.refl _).symm) (fun (γ:Nat) M' w hM=>Qx (v:=fun b=>.p0 b) (fun b M=>Kr) M' w hM) (fun (γ:Nat)=>Kr) (fun (γ:Nat) g=>Kr) Kr (fun (γ:Nat) g=>Kr) (Steps.put (i:=20) (fun (γ:Nat)=>[Bk γ (Zc.c Zc.zero) 120]) (fun (γ:Nat)=>[Bk γ (Zc.c r1.1) 120]) (fun S (γ:Nat)=>Mr5_) (fun (γ:Nat)=>sU (Instr.storeAt 120 (.p0 γ) (Zc.v r1.1))) none (fun S (γ:Nat) hj hd hl=>by rw [mS2 (hd 19 Kr) hj];exact List.Perm.refl _) (fun S (γ:Nat) _=>(List.Perm.refl _).symm) (fun (γ:Nat) M' w hM=>QP (fun b M=>Kr) (fun b M=>Kr) M' w hM) (fun (γ:Nat)=>Kr) (fun (γ:Nat)=>Kr) (Steps.run (i:=21) 23 [0,0] Mr5_ Kr Kr (fun S (γ:Nat) w hM=>by rw [mS2 rfl rfl] at hM;exact hM.sub (Zj (List.Sublist.refl _))) Kr (fun (γ:Nat)=>{}) (Steps.done Kr))))))
        · rintro b2
          refine TE.conv [Bk b2 (Zc.c r1.1) 120,Bk b1 (followed.c x) 122,Ow A_stay c_stay 122 23 (stay.map followed.c),Bk b_t (Ze.k t A_t_all c_t_all) 118,Ow A_t_all c_t_all 122 23 (t.all.map followed.c)] (fun _ hM=>hM) (TE.nr (TL.r 2 [0] [(41,Zc.v r1.1),(42,.pt b1 20)] {} (TL.s 1 (Bk b1 (followed.c (⟨x.f,r1.1,x.hit⟩:followed)) 122) (fun _=>{}) (TL.ns (TC.sr (TL.r 2 [] [(44,.b (r1.2.1 == 2))] {} (TL.next rfl (TC.cond (r1.2.1 == 2) rfl Kr (fun h3=>?_) (fun h3=>?_)))))))))
          · have q3_0:=(Yx h3)
            refine TC.exit (TE.et (TE.et (TE.exit_same ?_)))
            exact TE.next (TC.region (TL.r 2 [] [(13,.i (w64 ((k:Int) + 1)))] {} (TL.done rfl (TE.rw 13 (.i (w64 ((k:Int) + 1))) (.i ((k + 1:Nat):Int)) Kr (ZD k (by omega)) (TE.again (x:=(k,stay,A_stay,c_stay)) (k + 1,stay,A_stay,c_stay) ⟨by omega,hI.trans (by subst hr1;rw [hd];exact Zi h2 (Zi h3 (rfl))),sl⟩ (mN hlt) Kr (sb 28))))))
          · have q3_0:=(ZN h3)
            refine TC.snr (TL.r 2 [] [(46,.b (r1.2.1 == 1))] {} (TL.next rfl (TC.cond (r1.2.1 == 1) rfl Kr (fun h4=>?_) (fun h4=>?_))))
            · have q4_0:=(Yx h4)
              refine TC.region (TL.r 3 [] [(49,.pt b1 1)] {} (TL.s 1 (Bk b1 (followed.c (⟨⟨⟨x.f.Track.ID,1,x.f.Track.Time,x.f.Track.At,x.f.Track.Speed,x.f.Track.Height,x.f.Track.Rate,x.f.Track.Radius,x.f.Track.Code,x.f.Track.Hits,x.f.Track.Misses⟩,x.f.Slack,x.f.Last⟩,r1.1,x.hit⟩:followed)) 122) (fun _=>{}) (TL.next rfl (TC.region (TL.r 2 [1] [(50,.slice A_stay stay.length c_stay),(51,followed.v (⟨⟨⟨x.f.Track.ID,1,x.f.Track.Time,x.f.Track.At,x.f.Track.Speed,x.f.Track.Height,x.f.Track.Rate,x.f.Track.Radius,x.f.Track.Code,x.f.Track.Hits,x.f.Track.Misses⟩,x.f.Slack,x.f.Last⟩,r1.1,x.hit⟩:followed))] {} (TL.nw 52 (fun b3=>.slice (Pa b3) 1 1) (fun b3=>Bk b3 (followed.c (⟨⟨⟨x.f.Track.ID,1,x.f.Track.Time,x.f.Track.At,x.f.Track.Speed,x.f.Track.Height,x.f.Track.Rate,x.f.Track.Radius,x.f.Track.Code,x.f.Track.Hits,x.f.Track.Misses⟩,x.f.Slack,x.f.Last⟩,r1.1,x.hit⟩:followed)) 122) (fun b3=>{}) (fun b3=>TL.os (Γ:=AN) (sV (Builtin.append_ #[116,116] 116 #[.slice A_stay stay.length c_stay,.slice (Pa b3) 1 1])) 53 (fun g=>.slice g.1 (stay ++ ([(⟨⟨⟨x.f.Track.ID,1,x.f.Track.Time,x.f.Track.At,x.f.Track.Speed,x.f.Track.Height,x.f.Track.Rate,x.f.Track.Radius,x.f.Track.Code,x.f.Track.Hits,x.f.Track.Misses⟩,x.f.Slack,x.f.Last⟩,r1.1,x.hit⟩:followed)])).length g.2) 3 (fun g=>Ow g.1 g.2 122 23 ((stay ++ ([(⟨⟨⟨x.f.Track.ID,1,x.f.Track.Time,x.f.Track.At,x.f.Track.Speed,x.f.Track.Height,x.f.Track.Rate,x.f.Track.Radius,x.f.Track.Code,x.f.Track.Hits,x.f.Track.Misses⟩,x.f.Slack,x.f.Last⟩,r1.1,x.hit⟩:followed)])).map followed.c)) (Qq (bytes:=184) 116 3 ([(⟨⟨⟨x.f.Track.ID,1,x.f.Track.Time,x.f.Track.At,x.f.Track.Speed,x.f.Track.Height,x.f.Track.Rate,x.f.Track.Radius,x.f.Track.Code,x.f.Track.Hits,x.f.Track.Misses⟩,x.f.Slack,x.f.Last⟩,r1.1,x.hit⟩:followed)]) Kr rfl rfl followed.one rfl (fun w hM=>(Rd.lit hM 0 _ rfl Kr Kr Kr)) rfl sa) {} ?_)))))))
              rintro ⟨A,c⟩
              exact TL.r 5 [] [(2,.slice A ((stay ++ ([(⟨⟨⟨x.f.Track.ID,1,x.f.Track.Time,x.f.Track.At,x.f.Track.Speed,x.f.Track.Height,x.f.Track.Rate,x.f.Track.Radius,x.f.Track.Code,x.f.Track.Hits,x.f.Track.Misses⟩,x.f.Slack,x.f.Last⟩,r1.1,x.hit⟩:followed)])).length) c)] {} (TL.done rfl (TE.nb (TE.next (TC.region (TL.r 2 [] [(13,.i (w64 ((k:Int) + 1)))] {} (TL.done rfl (TE.rw 13 (.i (w64 ((k:Int) + 1))) (.i ((k + 1:Nat):Int)) Kr (ZD k (by omega)) (TE.again (x:=(k,stay,A_stay,c_stay)) (k + 1,(stay ++ ([(⟨⟨⟨x.f.Track.ID,1,x.f.Track.Time,x.f.Track.At,x.f.Track.Speed,x.f.Track.Height,x.f.Track.Rate,x.f.Track.Radius,x.f.Track.Code,x.f.Track.Hits,x.f.Track.Misses⟩,x.f.Slack,x.f.Last⟩,r1.1,x.hit⟩:followed)])),A,c) ⟨by omega,hI.trans (by subst hr1;rw [hd];exact Zi h2 (Zb h3 (Zi h4 (rfl)))),sl⟩ (mN hlt) Kr (sb 56)))))))))
            · have q4_0:=(ZN h4)
              refine TC.sn (TC.region (TL.r 2 [1] [(50,.slice A_stay stay.length c_stay),(51,followed.v (⟨x.f,r1.1,x.hit⟩:followed))] {} (TL.nw 52 (fun b4=>.slice (Pa b4) 1 1) (fun b4=>Bk b4 (followed.c (⟨x.f,r1.1,x.hit⟩:followed)) 122) (fun b4=>{}) (fun b4=>TL.os (Γ:=AN) (sV (Builtin.append_ #[116,116] 116 #[.slice A_stay stay.length c_stay,.slice (Pa b4) 1 1])) 53 (fun g=>.slice g.1 (stay ++ ([(⟨x.f,r1.1,x.hit⟩:followed)])).length g.2) 3 (fun g=>Ow g.1 g.2 122 23 ((stay ++ ([(⟨x.f,r1.1,x.hit⟩:followed)])).map followed.c)) (Qq (bytes:=184) 116 3 ([(⟨x.f,r1.1,x.hit⟩:followed)]) Kr rfl rfl followed.one rfl (fun w hM=>(Rd.lit hM 0 _ rfl Kr Kr Kr)) rfl sa) {} ?_))))
              rintro ⟨A_2,c_2⟩
              exact TL.r 5 [] [(2,.slice A_2 ((stay ++ ([(⟨x.f,r1.1,x.hit⟩:followed)])).length) c_2)] {} (TL.done rfl (TE.nb (TE.next (TC.region (TL.r 2 [] [(13,.i (w64 ((k:Int) + 1)))] {} (TL.done rfl (TE.rw 13 (.i (w64 ((k:Int) + 1))) (.i ((k + 1:Nat):Int)) Kr (ZD k (by omega)) (TE.again (x:=(k,stay,A_stay,c_stay)) (k + 1,(stay ++ ([(⟨x.f,r1.1,x.hit⟩:followed)])),A_2,c_2) ⟨by omega,hI.trans (by subst hr1;rw [hd];exact Zi h2 (Zb h3 (Zb h4 (rfl)))),sl⟩ (mN hlt) Kr (sb 56)))))))))
      · have q2_0:=(ZN h2)
        refine TC.sn (TC.region (TL.r 2 [0] [(50,.slice A_stay stay.length c_stay),(51,followed.v x)] {} (TL.nw 52 (fun b5=>.slice (Pa b5) 1 1) (fun b5=>Bk b5 (followed.c x) 122) (fun b5=>{}) (fun b5=>TL.os (Γ:=AN) (sV (Builtin.append_ #[116,116] 116 #[.slice A_stay stay.length c_stay,.slice (Pa b5) 1 1])) 53 (fun g=>.slice g.1 (stay ++ ([x])).length g.2) 2 (fun g=>Ow g.1 g.2 122 23 ((stay ++ ([x])).map followed.c)) (Qq (bytes:=184) 116 2 ([x]) Kr rfl rfl followed.one rfl (fun w hM=>(Rd.lit hM 0 _ rfl Kr Kr Kr)) rfl sa) {} ?_))))
        rintro ⟨A_3,c_3⟩
        exact TL.r 5 [] [(2,.slice A_3 ((stay ++ ([x])).length) c_3)] {} (TL.done rfl (TE.nb (TE.next (TC.region (TL.r 2 [] [(13,.i (w64 ((k:Int) + 1)))] {} (TL.done rfl (TE.rw 13 (.i (w64 ((k:Int) + 1))) (.i ((k + 1:Nat):Int)) Kr (ZD k (by omega)) (TE.again (x:=(k,stay,A_stay,c_stay)) (k + 1,(stay ++ ([x])),A_3,c_3) ⟨by omega,hI.trans (by rw [hd];exact Zb h2 (rfl)),sl⟩ (mN hlt) Kr (sb 28)))))))))
    · have hd:=XL h1
      refine TC.exit (TE.et (TE.et (TE.exit_same ?_)))
      exact TE.cut (stay,A_stay,c_stay) (⟨hI.trans (by rw [hd];exact rfl),sl⟩) Kr (sb 7)
  · rintro ⟨stay_2,A_stay_2,c_stay_2⟩ ⟨hJ,hl_stay_2⟩
    refine TE.next (TC.region (TL.r 4 [] [(56,.slice A_stay_2 stay_2.length c_stay_2),(58,.pt b_t 6)] {} (TL.s 1 (Bk b_t (Ze.k (⟨t.rules,stay_2,t.next,t.last⟩:Ze) A_stay_2 c_stay_2) 118) (fun _=>{}) (TL.done rfl ?_))))
    have e:Zv t=(⟨t.rules,stay_2,t.next,t.last⟩:Ze):=by unfold Zv;exact Ye (hR.symm.trans hJ) (rfl)
    refine TE.conv [Bk b_t (Ze.k (⟨t.rules,stay_2,t.next,t.last⟩:Ze) A_stay_2 c_stay_2) 118,Ow A_stay_2 c_stay_2 122 23 (stay_2.map followed.c),Ow A_t_all c_t_all 122 23 (t.all.map followed.c)] (fun _ hM=>hM.perm (px [1,0,2])) ?_
    rw [e]
    exact TE.retM (.inr rfl) (A_stay_2,c_stay_2) [] (.tuple #[]) {} rfl (fun _ hM=>hM.sub (sb 3))
end Go.Sky
end
section
namespace Go.Eng
open Go.RowKit (Below)
theorem OA {g:Option Addr} {c sz:Nat}:(if c=0 then g else g.map (fun a=>a.add (0 * sz)))=g:=by
  split
  · rfl
  · cases g with
    | none=>rfl
    | some a=>rw [Nat.zero_mul];rfl
end Go.Eng
end
section
namespace Go.Eng
theorem WN (z:Array Value) (n:Nat):(Builtin.zeroCells z n).toList=flat (List.replicate n z):=by
  rw [← Be]
  unfold Builtin.zeroCells madeCells
  apply List.ext_getElem?
  intro j
  by_cases hj:j < n * z.size
  · have h0:0 < z.size:=by rcases Nat.eq_zero_or_pos z.size with h | h;(rw [h] at hj;omega);exact h
    have hmod:=Nat.mod_lt j h0
    simp [hj,hmod]
  · rw [List.getElem?_eq_none (by simp;omega)]
theorem BV {α:Type} {c:α → Array Value} (h1:∀ x,(c x).toList.all Value.oneCell'=true) (l:List α):∀ v ∈ flat (l.map c),v.oneCell'=true:=by
  intro v hv
  simp only [flat,List.map_map,List.mem_flatten,List.mem_map] at hv
  obtain ⟨r,⟨x,_,rfl⟩,hr⟩:=hv
  exact List.all_eq_true.1 (h1 x) v hr
theorem UX {α:Type} {c:α → Array Value} {P:Program} {w0:Ctx} {M:Mem} {t e sz bytes cap:Nat} {A A1:Option Addr} {l:List α} (x:α) (j k cap1 n ty:Nat) (hT:Ud P t e sz bytes=true)
    (hz:((P.info? e).bind (·.zero)).map Value.cells=some (c x)) (h1:∀ x,(c x).toList.all Value.oneCell'=true) (hj:M[j]?=some (.inr (Own A cap e sz (l.map c)))) (hA:A1=if cap=k then A else A.map (fun a=>a.add (k * sz)))
    (hn:n=l.length - k) (hk:k ≤ l.length) (w:World) (hM:Sat w0 M w) :
    ∃ (_:Unit) (w':World),(sV (Builtin.clear_ #[t] ty #[.slice A1 n cap1])).run P w=.ok (.value (.tuple #[])) w' ∧ Sat w0 (M.set j (.inr (Own A cap e sz ((l.take k ++ List.replicate (l.length - k) x).map c)))) w':=by
  subst hn
  obtain ⟨hu,i,zv,hi,hzv,hs1,hs2,hs3⟩:=Vy hT
  have hz':zv.cells=c x:=by simpa [hi,hzv] using hz
  have hzero:(zeroValue e).run P w=.ok zv w:=by simp [zeroValue,typeInfo,hi,hzv]
  have hlen:(l.map c).length=l.length:=by simp
  have ho:=hM.own_at j hj
  rcases Nat.lt_or_ge k l.length with hkl | hkl
  · rcases ho with ⟨_,h0⟩ | ⟨g,cur,ho⟩
    · have:l=[]:=by simpa using h0
      subst this;simp at hkl
    · have hAt:=ho.at_;subst hAt
      have hle:=ho.le;rw [hlen] at hle
      rw [if_neg (by omega)] at hA
      have hA1:A1=some ⟨g,k * sz,none⟩:=by rw [hA,Option.map_some,JR]
      obtain ⟨m,hm⟩:∃ m,l.length - k=m + 1:=⟨l.length - k - 1,by omega⟩
      have hall:∀ r ∈ List.replicate (l.length - k) (c x),r.size=sz:=fun r hr=>by rw [List.eq_of_mem_replicate hr,← hz',hs3]
      have hzs:(Builtin.zeroCells zv.cells (l.length - k)).toList=flat (List.replicate (l.length - k) (c x)):=by rw [WN,hz']
      have hfl:(flat (List.replicate (l.length - k) (c x))).length=(l.length - k) * sz:=by rw [Q4 _ hall,List.length_replicate]
      have hsz:=ho.size
      have hlk:k * sz + (l.length - k) * sz=l.length * sz:=by rw [← Nat.add_mul];congr 1;omega
      have hcs:l.length * sz ≤ cur.size:=by rw [hsz];exact Nat.mul_le_mul_right _ hle
      have hone:∀ v ∈ flat (List.replicate (l.length - k) (c x)),v.oneCell'=true:=by
        have:=BV h1 (List.replicate (l.length - k) x)
        rwa [List.map_replicate] at this
      have hst:=run_storeCells_at P g (k * sz) e (flat (List.replicate (l.length - k) (c x))) 0 cur w ho.heap (by omega) hone
      refine ⟨(),w.setRow g (List.take (k * sz + 0) cur.toList ++ flat (List.replicate (l.length - k) (c x)) ++ List.drop (k * sz + 0 + (flat (List.replicate (l.length - k) (c x))).length) cur.toList).toArray,Wy ?_,
        hM.step hj ⟨rfl,rfl,rfl,by simp [World.setRow],fun k' _ hk'=>setRow_other w g k' _ (fun e=>hk' ⟨ho.pos,_,rfl,e.symm⟩),Nat.le_refl _⟩ ?_ (fun b hb=>.inl hb)⟩
      · rw [hA1]
        rw [hm] at hst hzs ⊢
        simp [Builtin.clear_,run_underlying hu,hzero,hzs,hst]
      · refine .inr ⟨g,_,rfl,ho.pos,setRow_heap w g cur _ e _ ho.heap,?_,ho.max,?_,?_,?_,?_⟩
        · simp;omega
        · simp only [List.size_toArray,List.length_append,List.length_take,List.length_drop,Array.length_toList,hfl];omega
        · have h6:=ho.holds
          rw [hlen] at h6
          have hL:((l.take k ++ List.replicate (l.length - k) x).map c).length * sz=l.length * sz:=by congr 1;simp;omega
          have hf1:flat ((l.take k ++ List.replicate (l.length - k) x).map c)=(flat (l.map c)).take (k * sz) ++ flat (List.replicate (l.length - k) (c x)):=by
            rw [List.map_append,KT,List.map_replicate,G5 _ _ ho.each,List.map_take]
          rw [hL,hf1,← h6]
          simp only [Nat.add_zero]
          rw [GW _ _ _ _ (by omega) (by rw [Array.length_toList];omega)]
          rw [List.drop_eq_nil_of_le (by rw [List.length_take,hfl];omega),List.append_nil]
        · intro r hr
          simp only [List.map_append,List.mem_append,List.map_replicate] at hr
          rcases hr with hr | hr
          · exact ho.each r (by rw [List.map_take] at hr;exact List.mem_of_mem_take hr)
          · exact hall r hr
        · have:=ho.short
          simp at this ⊢;omega
  · have hk0:l.length - k=0:=by omega
    rw [hk0]
    refine ⟨(),w,Wy ?_,?_⟩
    · cases A1 <;> simp [Builtin.clear_,run_underlying hu]
    · rw [List.replicate_zero,List.append_nil,List.take_of_length_le hkl]
      have:M.set j (.inr (Own A cap e sz (l.map c)))=M:=by
        obtain ⟨hlt,he⟩:=List.getElem?_eq_some_iff.1 hj
        rw [← he];exact List.set_getElem_self hlt
      rw [this];exact hM
end Go.Eng
end
