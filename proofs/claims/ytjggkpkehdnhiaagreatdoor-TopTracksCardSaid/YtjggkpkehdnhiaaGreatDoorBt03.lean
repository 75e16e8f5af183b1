/- Lemmas toward the given statement (part 3 of 22): Delta Sa Thick Wa. Each theorem states its own conditions; nothing is assumed beyond them. -/
import Derived.Test.YtjggkpkehdnhiaaGreatDoorBt01
import Derived.Test.YtjggkpkehdnhiaaGreatDoorRows
import Derived.Test.YtjggkpkehdnhiaaGreatDoorBt02
section
namespace Go.Eng
theorem Bi (t:Nat) (F:Z9):∀ A:Z9,look t (A ++ F)=match look t A with | some v=>some v | none=>look t F
  | []=>rfl
  | (k,v) :: A=>by
    by_cases e:k=t
    · subst e;rw [List.cons_append,Yk,Yk]
    · rw [List.cons_append,Yt _ _ e,Yt _ _ e];exact Bi t F A
def PV (A F:Z9) (l:List Oper):Bool:=l.all fun o=>match o.dst with
  | none=>true
  | some d=>(look d A).isSome || !(look d F).isSome
theorem WL {n:Nat} {F G:Z9} {d:Option Tmp} {v:Value} {t:Nat} (h:VH n F d v=some G) (ht:d ≠ some t):look t G=look t F:=by
  unfold VH at h
  split at h
  · simp only [Option.some.injEq] at h;subst h;rfl
  · rename_i d'
    cases hb:Nat.blt d' n with
    | false=>rw [hb] at h;cases h
    | true =>
      rw [hb] at h
      simp only [cond_true,Option.some.injEq] at h
      subst h
      exact Yt _ _ (fun e=>ht (by rw [e]))
theorem UC {P:Program} {n:Nat} {ops:List Oper} {M:Mem} {t:Nat}:∀ (l:List Oper) (hs:List Nat) (F G:Z9) (es:List (Nat × Nat)),JH P n ops M l hs F=some (G,es) → (∀ o ∈ l,o.dst ≠ some t) → look t G=look t F
  | [],hs,F,G,es,h,_=>by simp only [JH,Option.some.injEq,Prod.mk.injEq] at h;rw [h.1]
  | o :: l,hs,F,G,es,h,ht=>by
    have h0:=ht o (List.mem_cons_self ..)
    have h1:∀ o ∈ l,o.dst ≠ some t:=fun o ho=>ht o (List.mem_cons_of_mem _ ho)
    simp only [JH] at h
    split at h
    · split at h
      · split at h
        · rename_i hF1
          split at h
          · rename_i hr
            simp only [Option.some.injEq,Prod.mk.injEq] at h
            rw [← h.1,UC l _ _ _ _ hr h1,WL hF1 h0]
          · cases h
        · cases h
      · cases h
    · split at h
      · rename_i hF1
        rw [UC l _ _ _ _ h h1,WL hF1 h0]
      · cases h
    · cases h
structure OkA (P:Program) (n:Nat) (l:List Oper) (ops:List Oper) (M:Mem) (i k:Nat) (hs:List Nat) (A F0 F:Z9):Prop where
  le:Nat.ble i k=true:=by kernel_rfl
  fst:PG A (JH P n ops M ((l.drop i).take (k - i)) hs F0)=some A:=by kernel_rfl
  snd:WA (JH P n ops M ((l.drop i).take (k - i)) hs F0)=U9 (JH P n ops M ((l.drop i).take (k - i)) hs F0):=by kernel_rfl
  thd:PV A F ((l.drop i).take (k - i))=true:=by kernel_rfl
theorem Fv {P:Program} {n:Nat} {l ops:List Oper} {M:Mem} {i k:Nat} {hs:List Nat} {A F0 F:Z9} (h:OkA P n l ops M i k hs A F0 F) (hsub:∀ s v,look s F=some v → look s F0=some v) :
    ∃ G es,JH P n ops M ((l.drop i).take (k - i)) hs F0=some (G,es) ∧ (∀ p ∈ es,p.1=p.2) ∧ ∀ t v,look t (A ++ F)=some v → look t G=some v:=by
  obtain ⟨_,h1,h2,h3⟩:=h
  cases hr:JH P n ops M ((l.drop i).take (k - i)) hs F0 with
  | none=>rw [hr] at h1;cases h1
  | some x =>
    rw [hr] at h1 h2
    refine ⟨x.1,x.2,rfl,Vv _ h2,fun t v ht=>?_⟩
    rw [Bi] at ht
    cases hA:look t A with
    | some u=>rw [hA] at ht;simp only [Option.some.injEq] at ht;subst ht;exact QZ _ _ _ h1 t u hA
    | none =>
      rw [hA] at ht
      simp only at ht
      rw [UC _ _ _ _ _ hr (fun o ho e=>?_)]
      · exact hsub t v ht
      · have:=List.all_eq_true.1 h3 o ho
        rw [e] at this
        simp only [hA,ht] at this
        cases this
section
variable {P:Program} {n:Nat} {w0:Ctx} {ops:Array Oper} {Q:Exit → Act → World → Prop} {F:Z9} {M:Mem}
theorem TL.core (k:Nat) (hs:List Nat) (A F0:Z9) {i:Nat} (hsub:∀ s v,look s F=some v → look s F0=some v) (hr:OkA P n ops.toList ops.toList M i k hs A F0 F) (h:TL P n w0 ops Q k (A ++ F) M):TL P n w0 ops Q i F0 M:=by
  intro a w hF hM
  obtain ⟨G,es,hG,he,hs'⟩:=Fv hr hsub
  rw [Vg ops.toList (Nat.le_of_ble_eq_true hr.le)]
  exact KR _ _ _ _ _ _ a w hF hM hG he (fun a' ha'=>h a' w (ha'.sub hs') hM)
theorem TL.r (k:Nat) (hs:List Nat) (A:Z9) {i:Nat} (hr:OkA P n ops.toList ops.toList M i k hs A F F) (h:TL P n w0 ops Q k (A ++ F) M):TL P n w0 ops Q i F M :=
  TL.core k hs A F (fun _ _ h=>h) hr h
theorem Ui {t:Nat} {b:Bool} (ht:look t F=some (.bool b)):∀ s v,look s F=some v → look s ((t,.bool b) :: F)=some v:=fun s v hv=>by
  by_cases e:t=s
  · subst e;rw [Yk];exact ht.symm.trans hv
  · rw [Yt _ _ e];exact hv
theorem TL.j (t:Nat) (b:Bool) (k:Nat) (hs1 hs2:List Nat) (A:Bool → Z9) {i:Nat} (ht:look t F=some (.bool b)) (h1:OkA P n ops.toList ops.toList M i k hs1 (A true) ((t,.bool true) :: F) F)
    (h2:OkA P n ops.toList ops.toList M i k hs2 (A false) ((t,.bool false) :: F) F) (h:TL P n w0 ops Q k (A b ++ F) M):TL P n w0 ops Q i F M:=by
  refine TL.split t b ht (fun e=>?_) (fun e=>?_)
  · subst e;exact TL.core k hs1 (A true) _ (Ui ht) h1 h
  · subst e;exact TL.core k hs2 (A false) _ (Ui ht) h2 h
structure F2 (n:Nat) (ops:List Oper) (F:Z9) (i:Nat) (s:Sem Next) (d:Nat):Prop where
  at_:semAt ops F i=some (s,some d):=by kernel_rfl
  lt:Nat.blt d n=true:=by kernel_rfl
structure BM (P:Program) (n:Nat) (ops:List Oper) (F:Z9) (i:Nat) (f:FuncId) (args:Array Value) (d:Nat):Prop where
  at_:Vw P ops F i=some (f,args,some d):=by kernel_rfl
  lt:Nat.blt d n=true:=by kernel_rfl
theorem UD {a:Act} {d:Nat} {v:Value} (hF:Fr n F a) (hd:Nat.blt d n=true):Fr n ((d,v) :: F) (a.put (some d) v):=hF.put (Nat.le_of_ble_eq_true hd) v
structure OkN (r:Option ((Z9 × Mem) × List (Nat × Nat))) (F':Z9) (M':Mem):Prop where
  fst:r.map Prod.fst=some (F',M'):=by kernel_rfl
  snd:WA r=U9 r:=by kernel_rfl
theorem OkN.okW {r:Option ((Z9 × Mem) × List (Nat × Nat))} {F':Z9} {M':Mem} (h:OkN r F' M'):∃ es,r=some ((F',M'),es) ∧ ∀ p ∈ es,p.1=p.2:=by
  obtain ⟨h1,h2⟩:=h
  cases r with
  | none=>cases h1
  | some x =>
    obtain ⟨y,es⟩:=x
    simp only [Option.map_some,Option.some.injEq] at h1
    subst h1
    exact ⟨es,rfl,Vv _ h2⟩
theorem TL.wr (j:Nat) (F':Nat → Z9) (M':Nat → Mem) {i:Nat} (hr:∀ b,OkN (LD P n ops.toList F M j b i) (F' b) (M' b)) (h:∀ b,TL P n w0 ops Q (i + 1) (F' b) (M' b)):TL P n w0 ops Q i F M:=by
  intro a w hF hM
  obtain ⟨es,hG,he⟩:=(hr w.heap.size).okW
  unfold LD at hG
  split at hG
  · rename_i s d hs
    obtain ⟨o,h1,h2,h3,h4⟩:=XH hF hs
    rw [h1]
    refine YZ h2 ?_
    unfold Oper.wp
    rw [h3]
    split at hG
    · rename_i v m es' hm
      split at hG
      · rename_i G' hp
        simp only [Option.some.injEq,Prod.mk.injEq] at hG
        obtain ⟨⟨rfl,rfl⟩,rfl⟩:=hG
        obtain ⟨w',hrun,hM'⟩:=K9 s M w _ _ _ hM rfl hm he
        rw [hrun]
        subst h4
        exact h w.heap.size _ w' (Jx hF hp) hM'
      · cases hG
    · rename_i m es' hm
      split at hG
      · rename_i G' hp
        simp only [Option.some.injEq,Prod.mk.injEq] at hG
        obtain ⟨⟨rfl,rfl⟩,rfl⟩:=hG
        obtain ⟨w',hrun,hM'⟩:=K9 s M w _ _ _ hM rfl hm he
        rw [hrun]
        subst h4
        exact h w.heap.size _ w' (Jx hF hp) hM'
      · cases hG
    · cases hG
  · cases hG
theorem TL.nw (d:Nat) (v:Nat → Value) (e:Nat → Ent) {i:Nat} (hr:∀ b,OkN (LD P n ops.toList F M 0 b i) ((d,v b) :: F) (e b :: M)) (h:∀ b,TL P n w0 ops Q (i + 1) ((d,v b) :: F) (e b :: M)):TL P n w0 ops Q i F M :=
  TL.wr 0 _ _ hr h
theorem TL.s (j:Nat) (e:Ent) {i:Nat} (hr:∀ b,OkN (LD P n ops.toList F M j b i) F (M.set j e)) (h:TL P n w0 ops Q (i + 1) F (M.set j e)):TL P n w0 ops Q i F M :=
  TL.wr j (fun _=>F) (fun _=>M.set j e) hr (fun _=>h)
theorem TL.c {α:Type} (d:Nat) (x:α) (e:α → Value) {i:Nat} {f:FuncId} {args:Array Value} (hc:∀ w,Sat w0 M w → Calls P f args w (Ret w (e x))) (hs:BM P n ops.toList F i f args d)
    (h:∀ r,x=r → TL P n w0 ops Q (i + 1) ((d,e r) :: F) M):TL P n w0 ops Q i F M:=by
  intro a w hF hM
  obtain ⟨o,h1,h2,h3,h4⟩:=QL hF hs.at_
  rw [h1]
  refine YZ h2 ?_
  unfold Oper.wp
  rw [h3 w]
  refine (hc w hM).mono fun e w' he=>?_
  obtain ⟨rfl,hb⟩:=he
  simp only
  rw [h4]
  exact h x rfl _ w' (UD hF hs.lt) (hM.later hb)
theorem TL.v (s:Sem Next) (d:Nat) (v:Value) {i:Nat} (hv:∀ w,Sat w0 M w → s.run P w=.ok (.value v) w) (hs:F2 n ops.toList F i s d) (h:TL P n w0 ops Q (i + 1) ((d,v) :: F) M):TL P n w0 ops Q i F M:=by
  intro a w hF hM
  obtain ⟨o,h1,h2,h3,h4⟩:=XH hF hs.at_
  rw [h1]
  refine YZ h2 ?_
  unfold Oper.wp
  rw [h3,hv w hM]
  simp only [Oper.upon]
  rw [h4]
  exact h _ w (UD hF hs.lt) hM
theorem TL.o {Γ:Type} (s:Sem Next) (d:Nat) (v:Γ → Value) (M':Γ → Mem) {i:Nat} (hv:∀ w,Sat w0 M w → ∃ g w',s.run P w=.ok (.value (v g)) w' ∧ Sat w0 (M' g) w') (hs:F2 n ops.toList F i s d)
    (h:∀ g,TL P n w0 ops Q (i + 1) ((d,v g) :: F) (M' g)):TL P n w0 ops Q i F M:=by
  intro a w hF hM
  obtain ⟨o,h1,h2,h3,h4⟩:=XH hF hs.at_
  rw [h1]
  refine YZ h2 ?_
  unfold Oper.wp
  obtain ⟨g,w',hr,hM'⟩:=hv w hM
  rw [h3,hr]
  simp only [Oper.upon]
  rw [h4]
  exact h g _ w' (UD hF hs.lt) hM'
theorem TL.os {Γ:Type} (s:Sem Next) (d:Nat) (v:Γ → Value) (j:Nat) (e:Γ → Ent) {i:Nat} (hv:∀ w,Sat w0 M w → ∃ g w',s.run P w=.ok (.value (v g)) w' ∧ Sat w0 (M.set j (e g)) w') (hs:F2 n ops.toList F i s d)
    (h:∀ g,TL P n w0 ops Q (i + 1) ((d,v g) :: F) (M.set j (e g))):TL P n w0 ops Q i F M:=TL.o s d v (fun g=>M.set j (e g)) hv hs h
theorem TL.on {Γ:Type} (s:Sem Next) (d:Nat) (v:Γ → Value) (e:Γ → Ent) {i:Nat} (hv:∀ w,Sat w0 M w → ∃ g w',s.run P w=.ok (.value (v g)) w' ∧ Sat w0 (e g :: M) w') (hs:F2 n ops.toList F i s d)
    (h:∀ g,TL P n w0 ops Q (i + 1) ((d,v g) :: F) (e g :: M)):TL P n w0 ops Q i F M:=TL.o s d v (fun g=>e g :: M) hv hs h
theorem TL.ks {Γ:Type} (s:Sem Next) (j:Nat) (e:Ent) {i:Nat} (hv:∀ w,Sat w0 M w → ∃ (_:Γ) (w':World),s.run P w=.ok .skip w' ∧ Sat w0 (M.set j e) w') (hs:semAt ops.toList F i=some (s,none))
    (h:TL P n w0 ops Q (i + 1) F (M.set j e)):TL P n w0 ops Q i F M:=by
  intro a w hF hM
  obtain ⟨o,h1,h2,h3,h4⟩:=XH hF hs
  rw [h1]
  refine YZ h2 ?_
  unfold Oper.wp
  obtain ⟨_,w',hr,hM'⟩:=hv w hM
  rw [h3,hr]
  simp only [Oper.upon]
  rw [h4]
  exact h _ w' (Jx (dst:=none) (v:=undef) hF rfl) hM'
theorem Sat.given {w0:Ctx} {w:World} {Mp Mr:Mem} (h:Sat w0 (Mp ++ Mr) w):Sat ⟨w,Xf Mp⟩ Mp w :=
  ⟨Chg.refl _ _,fun e he=>⟨(h.own e (List.mem_append_left _ he)).1,fun _ hb=>.inl ⟨e,he,hb⟩⟩,(List.pairwise_append.1 h.apart).1⟩
theorem TL.cm {α Γ:Type} (k:Nat) (d:Nat) (x:α) (v:α → Γ → Value) (Mn:α → Γ → Mem) (Mp:Mem) {i:Nat} {f:FuncId} {args:Array Value}
    (he:M=Mp ++ M.drop k) (hc:∀ w,Sat ⟨w,Xf Mp⟩ Mp w → Calls P f args w (QK ⟨w,Xf Mp⟩ (v x) (Mn x))) (hs:BM P n ops.toList F i f args d)
    (h:∀ r,x=r → ∀ g,TL P n w0 ops Q (i + 1) ((d,v r g) :: F) (Mn r g ++ M.drop k)):TL P n w0 ops Q i F M:=by
  intro a w hF hM
  obtain ⟨o,h1,h2,h3,h4⟩:=QL hF hs.at_
  rw [h1]
  refine YZ h2 ?_
  unfold Oper.wp
  rw [h3 w]
  refine (hc w (Sat.given (Mr:=M.drop k) (by rw [← he];exact hM))).mono fun e w' hq=>?_
  obtain ⟨g,rfl,hb⟩:=hq
  simp only
  rw [h4]
  exact h x rfl g _ w' (UD hF hs.lt) (Sat.call (by rw [← he];exact hM) hb)
theorem TL.cn {α Γ:Type} (d:Nat) (x:α) (v:α → Γ → Value) (Mn:α → Γ → Mem) {i:Nat} {f:FuncId} {args:Array Value}
    (hc:∀ w,Sat w0 M w → Calls P f args w (QK (cx w) (v x) (Mn x))) (hs:BM P n ops.toList F i f args d)
    (h:∀ r,x=r → ∀ g,TL P n w0 ops Q (i + 1) ((d,v r g) :: F) (Mn r g ++ M)):TL P n w0 ops Q i F M:=by
  intro a w hF hM
  obtain ⟨o,h1,h2,h3,h4⟩:=QL hF hs.at_
  rw [h1]
  refine YZ h2 ?_
  unfold Oper.wp
  rw [h3 w]
  refine (hc w hM).mono fun e w' hq=>?_
  obtain ⟨g,rfl,h2⟩:=hq
  simp only
  rw [h4]
  refine h x rfl g _ w' (UD hF hs.lt) (Sat.call (Mp:=[]) (Mr:=M) hM ?_)
  refine ⟨⟨h2.chg.os,h2.chg.tape,h2.chg.output,h2.chg.size,fun k hk _=>h2.chg.block k hk (fun h=>h),h2.chg.drawn⟩,fun e he=>⟨(h2.own e he).1,fun b hb=>?_⟩,h2.apart⟩
  rcases (h2.own e he).2 b hb with h3 | h3
  · exact h3.elim
  · exact .inr h3
theorem TC.sr {id:Nat} {y:Code} (h:TL P n w0 ops (Exit.then (y.wp P Q) Q) 0 F M):TC P n w0 Q (.seq (.region id ops false) y) F M:=TC.seq (TC.region h)
theorem TL.ns {x y:Code} {i:Nat} (h:TC P n w0 (Exit.then (y.wp P Q) Q) x F M) (hi:Nat.ble ops.toList.length i=true:=by kernel_rfl):TL P n w0 ops (Exit.then ((Code.seq x y).wp P Q) Q) i F M:=TL.next hi (TC.seq h)
theorem TL.nr {ops2:Array Oper} {id:Nat} {y:Code} {i:Nat} (h:TL P n w0 ops2 (Exit.then (y.wp P Q) Q) 0 F M) (hi:Nat.ble ops.toList.length i=true:=by kernel_rfl):TL P n w0 ops (Exit.then ((Code.seq (.region id ops2 false) y).wp P Q) Q) i F M:=TL.next hi (TC.sr h)
theorem TC.sn {y:Code} (h:TC P n w0 Q y F M):TC P n w0 (Exit.then (y.wp P Q) Q) .skip F M:=TC.skip (TE.next h)
theorem TC.snr {id:Nat} {y:Code} (h:TL P n w0 ops (Exit.then (y.wp P Q) Q) 0 F M):TC P n w0 (Exit.then ((Code.seq (.region id ops false) y).wp P Q) Q) .skip F M:=TC.sn (TC.sr h)
theorem TE.nr {id:Nat} {y:Code} (h:TL P n w0 ops (Exit.then (y.wp P Q) Q) 0 F M):TE n w0 (Exit.then ((Code.seq (.region id ops false) y).wp P Q) Q) .normal F M:=TE.next (TC.sr h)
theorem TE.rt {K:Act → World → Prop} (h:TE n w0 Q .ret F M):TE n w0 (Exit.then K Q) .ret F M:=h
theorem TE.rb {id:Nat} (h:TE n w0 Q .ret F M):TE n w0 (Exit.inBlock id Q) .ret F M:=h
theorem TE.et {id:Nat} {K:Act → World → Prop} (h:TE n w0 Q (.exit id) F M):TE n w0 (Exit.then K Q) (.exit id) F M:=h
theorem TE.nb {id:Nat} (h:TE n w0 Q .normal F M):TE n w0 (Exit.inBlock id Q) .normal F M:=h
theorem TC.lw {X:Type} (Fs:X → Z9) (Ms:X → Mem) (m:X → Nat) (I:X → Prop) {c:Code}
    (round:∀ x,I x → TC P n w0 (Exit.then (fun a w=>∃ y,I y ∧ m y < m x ∧ Fr n (Fs y) a ∧ Sat w0 (Ms y) w) Q) c (Fs x) (Ms x)) (x:X) (hx:I x) (hp:pick ((Fs x).map Prod.fst) F=some (Fs x)) (hs:(Ms x).Sublist M):TC P n w0 Q (.loop c) F M :=
  TC.weak (Fs x) hp (TC.forget (Ms x) hs (TC.loop Fs Ms m I round x hx))
end
section
variable {P:Program} {n:Nat} {w0:Ctx} {ops:Array Oper} {Q:Act → Prop} {N:Nat} {F:Z9} {M:Mem}
theorem TQ.core (k:Nat) (hs:List Nat) (A F0:Z9) {i:Nat} (hsub:∀ s v,look s F=some v → look s F0=some v) (hr:OkA P n (ops.toList.take N) ops.toList M i k hs A F0 F) (h:TQ P n w0 ops Q N k (A ++ F) M):TQ P n w0 ops Q N i F0 M:=by
  intro a hF
  obtain ⟨G,es,hG,he,hs'⟩:=Fv hr hsub
  rw [Vg (ops.toList.take N) (Nat.le_of_ble_eq_true hr.le)]
  exact Kz _ _ _ _ _ _ a hF hG he (fun a' ha'=>h a' (ha'.sub hs'))
theorem TQ.r (k:Nat) (hs:List Nat) (A:Z9) {i:Nat} (hr:OkA P n (ops.toList.take N) ops.toList M i k hs A F F) (h:TQ P n w0 ops Q N k (A ++ F) M):TQ P n w0 ops Q N i F M :=
  TQ.core k hs A F (fun _ _ h=>h) hr h
theorem TQ.j (t:Nat) (b:Bool) (k:Nat) (hs1 hs2:List Nat) (A:Bool → Z9) {i:Nat} (ht:look t F=some (.bool b)) (h1:OkA P n (ops.toList.take N) ops.toList M i k hs1 (A true) ((t,.bool true) :: F) F)
    (h2:OkA P n (ops.toList.take N) ops.toList M i k hs2 (A false) ((t,.bool false) :: F) F) (h:TQ P n w0 ops Q N k (A b ++ F) M):TQ P n w0 ops Q N i F M:=by
  refine TQ.split t b ht (fun e=>?_) (fun e=>?_)
  · subst e;exact TQ.core k hs1 (A true) _ (Ui ht) h1 h
  · subst e;exact TQ.core k hs2 (A false) _ (Ui ht) h2 h
theorem TQ.c {α:Type} (d:Nat) (x:α) (e:α → Value) {i:Nat} {f:FuncId} {args:Array Value} (hc:∀ w,Sat w0 M w → Calls P f args w (Ret w (e x))) (hi:Nat.blt i N=true) (hs:BM P n ops.toList F i f args d)
    (h:∀ r,x=r → TQ P n w0 ops Q N (i + 1) ((d,e r) :: F) M):TQ P n w0 ops Q N i F M:=by
  intro a hF
  obtain ⟨o,h1,h2,h3,h4⟩:=QL hF hs.at_
  obtain ⟨r,h5,rfl⟩:=take_at hi h1
  rw [h5]
  unfold wpQuiet
  rw [if_pos h2]
  refine ⟨e x,fun w hM=>?_,by rw [h4];exact h x rfl _ (UD hF hs.lt)⟩
  unfold Oper.quietAt
  rw [h3 w]
  exact ⟨rfl,(hc w hM).mono fun e w' he=>⟨he.1,hM.later he.2⟩⟩
theorem TQ.v (s:Sem Next) (d:Nat) (v:Value) {i:Nat} (hv:∀ w,Sat w0 M w → s.run P w=.ok (.value v) w) (hi:Nat.blt i N=true) (hs:F2 n ops.toList F i s d) (h:TQ P n w0 ops Q N (i + 1) ((d,v) :: F) M):TQ P n w0 ops Q N i F M:=by
  intro a hF
  obtain ⟨o,h1,h2,h3,h4⟩:=XH hF hs.at_
  obtain ⟨r,h5,rfl⟩:=take_at hi h1
  rw [h5]
  unfold wpQuiet
  rw [if_pos h2]
  refine ⟨v,fun w hM=>?_,by rw [h4];exact h _ (UD hF hs.lt)⟩
  unfold Oper.quietAt
  rw [h3,hv w hM]
  exact ⟨rfl,rfl⟩
end
end Go.Eng
end
section
namespace Go.Sky
open Go Go.Eng Go.Proofs
def cmp_isNaN_int (x:Int):Bool :=
  x != x
set_option maxRecDepth 100000 in
theorem VF (x:Int) (w:World):Calls Tryz.prog 180 #[.int .i64 x] w (Ret w (.bool (cmp_isNaN_int x))):=by
  exact Zk (vs:=[.i x]) (w:=w) Tryz.func180 rfl Tryz.ntmps180 rfl (TC.sr (TL.r 1 [] [(2,.b false)] {} (TL.nr (TL.r 4 [] [(2,.b (x != x))] {} (TL.next rfl (TC.ret (TE.ret [] (.b (x != x)) {} (by unfold cmp_isNaN_int;refine eS (fun z=>(.b z:Value)) ?_;exact rfl))))))))
def cmp_Compare_int (x:Int) (y:Int):Int :=
  let r1:=cmp_isNaN_int x
  let r2:=cmp_isNaN_int y
  cond r1 (
    cond r2 (
      0) (
      (-1))) (
    cond r2 (
      1) (
      cond (decide (x < y)) (
        (-1)) (
        cond (decide (x > y)) (
          1) (
          0))))
set_option maxRecDepth 100000 in
theorem ZZ (x:Int) (y:Int) (w:World):Calls Tryz.prog 143 #[.int .i64 x,.int .i64 y] w (Ret w (.int .i64 (cmp_Compare_int x y))):=by
  refine Zk (vs:=[.i x,.i y]) (w:=w) Tryz.func143 rfl Tryz.ntmps143 rfl (TC.sr (TL.r 1 [] [(4,.i 0)] {} (TL.nr (TL.r 1 [] [(7,.i x)] {} (TL.c 8 (cmp_isNaN_int x) (fun r1=>.b r1) (fun w _=>VF x w) {} (fun r1 hr1=>TL.r 3 [] [(5,.b r1)] {} (TL.nr (TL.r 1 [] [(9,.i y)] {} (TL.c 10 (cmp_isNaN_int y) (fun r2=>.b r2) (fun w _=>VF y w) {} (fun r2 hr2=>TL.r 3 [] [(6,.b r2)] {} (TL.ns (TC.sr (TL.r 1 [] [(11,.b r1)] {} (TL.next rfl (TC.cond r1 rfl Kr (fun h1=>?_) (fun h1=>?_))))))))))))))))
  · refine TC.seq (TC.sr (TL.r 1 [] [(12,.b r2)] {} (TL.next rfl (TC.cond r2 rfl Kr (fun h2=>?_) (fun h2=>?_)))))
    · refine TC.sr (TL.r 1 [] [(4,.i 0)] {} (TL.next rfl (TC.ret (TE.rt (TE.rt ?_)))))
      exact TE.ret [] (.i 0) {} (by unfold cmp_Compare_int;refine eS (fun z=>(.i z:Value)) ?_;subst hr1 hr2;exact Zi h1 (Zi h2 (rfl)))
    · exact TC.snr (TL.r 1 [] [(4,.i (-1))] {} (TL.next rfl (TC.ret (TE.rt (TE.ret [] (.i (-1)) {} (by unfold cmp_Compare_int;refine eS (fun z=>(.i z:Value)) ?_;subst hr1 hr2;exact Zi h1 (Zb h2 (rfl))))))))
  · refine TC.sn (TC.seq (TC.sr (TL.r 1 [] [(13,.b r2)] {} (TL.next rfl (TC.cond r2 rfl Kr (fun h3=>?_) (fun h3=>?_))))))
    · exact TC.sr (TL.r 1 [] [(4,.i 1)] {} (TL.next rfl (TC.ret (TE.rt (TE.ret [] (.i 1) {} (by unfold cmp_Compare_int;refine eS (fun z=>(.i z:Value)) ?_;subst hr1 hr2;exact Zb h1 (Zi h3 (rfl))))))))
    · refine TC.sn (TC.seq (TC.sr (TL.r 3 [] [(16,.b (decide (x < y)))] {} (TL.next rfl (TC.cond (decide (x < y)) rfl Kr (fun h4=>?_) (fun h4=>?_))))))
      · exact TC.sr (TL.r 1 [] [(4,.i (-1))] {} (TL.next rfl (TC.ret (TE.rt (TE.ret [] (.i (-1)) {} (by unfold cmp_Compare_int;refine eS (fun z=>(.i z:Value)) ?_;subst hr1 hr2;exact Zb h1 (Zb h3 (Zi h4 (rfl)))))))))
      · refine TC.sn (TC.seq (TC.sr (TL.r 3 [] [(19,.b (decide (x > y)))] {} (TL.next rfl (TC.cond (decide (x > y)) rfl Kr (fun h5=>?_) (fun h5=>?_))))))
        · exact TC.sr (TL.r 1 [] [(4,.i 1)] {} (TL.next rfl (TC.ret (TE.rt (TE.ret [] (.i 1) {} (by unfold cmp_Compare_int;refine eS (fun z=>(.i z:Value)) ?_;subst hr1 hr2;exact Zb h1 (Zb h3 (Zb h4 (Zi h5 (rfl))))))))))
        · exact TC.snr (TL.r 1 [] [(4,.i 0)] {} (TL.next rfl (TC.ret (TE.ret [] (.i 0) {} (by unfold cmp_Compare_int;refine eS (fun z=>(.i z:Value)) ?_;subst hr1 hr2;exact Zb h1 (Zb h3 (Zb h4 (Zb h5 (rfl)))))))))
def Ja:List Int → Nat → ((Unit) ⊕ (Int))
  | [],_=>.inl ()
  | x :: xs,k=>cond (x != 0) (
      .inr x) (
      Ja xs (k + 1))
def QQ (vals:List Int):Int :=
  Sum.elim (fun _ =>
    0) (fun r=>r) (Ja vals 0)
set_option maxRecDepth 100000 in
theorem V1 (A_vals:Option Addr) (c_vals:Nat) (vals:List Int) (w:World) (h_vals:Rd w 1 A_vals (vals.map ic)) (_hc_vals:vals.length ≤ c_vals):Calls Tryz.prog 142 #[.slice A_vals vals.length c_vals] w (Ret w (.int .i64 (QQ vals))):=by
  have s_vals:=h_vals.short;rw [List.length_map] at s_vals
  refine Zk (vs:=[.slice A_vals vals.length c_vals]) (w:=w) Tryz.func142 rfl Tryz.ntmps142 rfl (TC.sr (TL.r 1 [] [(2,.i 0)] {} (TL.nr (TL.r 1 [] [(3,.i 0)] {} (TL.ns (TC.sr (TL.r 3 [] [(6,.slice A_vals vals.length c_vals),(7,.i (vals.length:Int)),(8,.i 0)] {} (TL.next rfl ?_))))))))
  obtain ⟨R1,hR⟩:∃ R,R=Ja vals 0:=⟨_,rfl⟩
  refine TC.cut (S:=Unit) (fun (_:Unit)=>[(3,.i 0)]) (fun (_:Unit)=>[]) (fun (_:Unit)=>R1=.inl ()) ?_ ?_
  · refine TC.block (TC.lw (X:=Nat) (fun k=>[(3,.i 0),(6,.slice A_vals vals.length c_vals),(7,.i (vals.length:Int)),(8,.i (k:Int))]) (fun k=>[]) (fun k=>vals.length - k) (fun k=>k ≤ vals.length ∧ R1=Ja (vals.drop k) k) ?_ 0 ⟨Nat.zero_le _,hR⟩ Kr (sb 0))
    rintro k ⟨hk,hI⟩
    refine TC.sr (TL.r 1 [] [(9,.b (decide ((k:Int) < (vals.length:Int))))] {} (TL.ns (TC.cond (decide ((k:Int) < (vals.length:Int))) rfl Kr (fun h1=>?_) (fun h1=>?_))))
    · have hlt:=ltN h1
      obtain ⟨x,hx⟩:=elN hlt
      have hd:=drop_at hx
      refine TC.sn (TC.seq (TC.block (TC.sr (TL.v (sV (Instr.indexAt 22 (.slice A_vals vals.length c_vals) (.i (k:Int)))) 10 (.pointer (some (Ix A_vals (k * 1)))) (fun w hM=>Zr (h_vals.sat hM) (by simp) Kr sd sd) {} (TL.v (sV (Instr.loadAt 3 (.pointer (some (Ix A_vals (k * 1)))))) 11 (.i x) (fun w hM=>Zs (off:=0) (i:=k) (.i x) (h_vals.sat hM) (ZA hx) Kr Kr) {} (TL.r 3 [] [(5,.i x)] {} (TL.nr (TL.r 3 [] [(14,.b (x != 0))] {} (TL.next rfl (TC.cond (x != 0) rfl Kr (fun h2=>?_) (fun h2=>?_)))))))))))
      · refine TC.sr (TL.r 2 [] [(2,.i x)] {} (TL.next rfl (TC.ret (TE.rb (TE.rt (TE.rt (TE.rb (TE.rt (TE.rt ?_)))))))))
        exact TE.ret [] (.i x) {} (by unfold QQ;refine eS (fun z=>(.i z:Value)) ?_;exact X7 (hR.symm.trans (hI.trans (by rw [hd];exact Zi h2 (rfl)))) rfl)
      · have q2_0:=(QG h2)
        exact TC.skip (TE.nb (TE.next (TC.region (TL.r 2 [] [(8,.i (w64 ((k:Int) + 1)))] {} (TL.done rfl (TE.rw 8 (.i (w64 ((k:Int) + 1))) (.i ((k + 1:Nat):Int)) Kr (ZD k (by omega)) (TE.again (x:=k) (k + 1) ⟨by omega,hI.trans (by rw [hd];exact Zb h2 (rfl))⟩ (mN hlt) Kr (sb 0))))))))
    · have hd:=XL h1
      refine TC.exit (TE.et (TE.et (TE.exit_same ?_)))
      exact TE.cut () (hI.trans (by rw [hd];exact rfl)) Kr (sb 0)
  · intro _ hJ
    exact TE.nr (TL.r 2 [] [(2,.i 0)] {} (TL.next rfl (TC.ret (TE.ret [] (.i 0) {} (by unfold QQ;refine eS (fun z=>(.i z:Value)) ?_;exact XI (hR.symm.trans hJ) (rfl))))))
end Go.Sky
end
section
namespace Go.Glue
open Go.ChangeShapes Go.WideShapes Go.ChangeAt Go.RowKit Go.Deep Go.Eng
def PW (P:Program) (t:TypeId) {α:Type} (c:α → Array Value) (ok:World → α → Prop):Prop :=
  ∀ {H:Type} {enc:TypeId × Value → H} {W:World} {base:Nat} {sp:Nat → Bool} {hd:Bool} {fuel:Nat} {cs:List Value} {x:DataW H × List MemPlace},
    DataW.trod enc P W base sp hd fuel t cs=some x → (∀ n ∈ x.1.weights P t,n ≤ reachBytes) → ∃ a,cs=(c a).toList ∧ ok W a
theorem Fq.w {P:Program} {t:TypeId} {α:Type} {c:α → Array Value} {ok:α → Prop} (h:Fq P t c ok):PW P t c (fun _=>ok):=fun h1 _=>h h1
section
variable {H:Type} {enc:TypeId × Value → H} {P:Program} {W:World} {base b0:Nat} {sp:Nat → Bool} {hd:Bool} {t:TypeId} {v:Value} {d:DataW H} {p:List MemPlace}
end
section
variable {H:Type} {enc:TypeId × Value → H} {P:Program} {W:World} {base b0:Nat} {sp:Nat → Bool} {hd:Bool} {t:TypeId} {v:Value} {d:DataW H} {p:List MemPlace}
end
end Go.Glue
namespace Go.Sky
open Go Go.Eng Go.Glue
structure Kt where
  (At:P)
  (Size NX NY:Int)
  (Heights:List Int)
deriving DecidableEq
def Kt.zero:Kt:=⟨⟨0,0⟩,0,0,0,[]⟩
def Kt.ok (x:Kt):Prop:=x.At.ok ∧ I64 x.Size ∧ I64 x.NX ∧ I64 x.NY ∧ (x.Heights.length < 4611686018427387904 ∧ ∀ a ∈ x.Heights,I64 a)
structure Jn where
  (At:P)
  (Size NX NY:Int)
  (Heights:Sl Int)
def Jn.p (x:Jn):Kt:=⟨x.At,x.Size,x.NX,x.NY,x.Heights.l⟩
def Jn.c (x:Jn):Array Value:=#[.int .i64 x.At.X,.int .i64 x.At.Y,.int .i64 x.Size,.int .i64 x.NX,.int .i64 x.NY,.slice x.Heights.A x.Heights.l.length x.Heights.cap]
theorem Jn.one (x:Jn):x.c.toList.all Value.oneCell'=true:=rfl
structure Vj where
  (Radar Time:Int)
  (Plots:List Zl)
deriving DecidableEq
def Vj.zero:Vj:=⟨0,0,[]⟩
def Vj.ok (x:Vj):Prop:=I64 x.Radar ∧ I64 x.Time ∧ (x.Plots.length < 4611686018427387904 ∧ ∀ a ∈ x.Plots,a.ok)
structure JJ where
  (Radar Time:Int)
  (Plots:Sl Zl)
def JJ.p (x:JJ):Vj:=⟨x.Radar,x.Time,x.Plots.l⟩
def JJ.c (x:JJ):Array Value:=#[.int .i64 x.Radar,.int .i64 x.Time,.slice x.Plots.A x.Plots.l.length x.Plots.cap]
theorem JJ.one (x:JJ):x.c.toList.all Value.oneCell'=true:=rfl
end Go.Sky
end
section
namespace Go.Sky
open Go Go.Eng Go.Proofs
def ZH (n:Int) (low:Int) (high:Int):Bool :=
  (decide (n < low)) || (decide (n > high))
set_option maxRecDepth 100000 in
theorem Xb (n:Int) (low:Int) (high:Int) (w:World):Calls Tryz.prog 127 #[.int .i64 n,.int .i64 low,.int .i64 high] w (Ret w (.bool (ZH n low high))):=by
  exact Zk (vs:=[.i n,.i low,.i high]) (w:=w) Tryz.func127 rfl Tryz.ntmps127 rfl (TC.sr (TL.r 1 [] [(6,.b false)] {} (TL.nr (TL.r 4 [] [(10,.b (decide (n < low)))] {} (TL.j 10 (decide (n < low)) 8 [] [] (fun β=>[(14,.b (β || (decide (n > high))))]) Kr {} {} (TL.r 9 [] [(6,.b ((decide (n < low)) || (decide (n > high))))] {} (TL.next rfl (TC.ret (TE.ret [] (.b ((decide (n < low)) || (decide (n > high)))) {} (by unfold ZH;refine eS (fun z=>(.b z:Value)) ?_;exact rfl))))))))))
def Yf (p:P):Int :=
  cond ((((decide (p.X < (-1000000))) || (decide (p.X > 1000000))) || (decide (p.Y < (-1000000)))) || (decide (p.Y > 1000000))) (
    4) (
    0)
set_option maxRecDepth 100000 in
theorem JV (p:P) (w:World):Calls Tryz.prog 47 #[P.v p] w (Ret w (.int .i64 (Yf p))):=by
  refine Zk (vs:=[P.v p]) (w:=w) Tryz.func47 rfl Tryz.ntmps47 rfl (TC.sr (TL.nw 1 (fun b1=>.p0 b1) (fun b1=>Bk b1 (P.c p) 36) (fun b1=>{}) (fun b1=>TL.r 2 [] [(2,.i 0)] {} (TL.ns (TC.sr (TL.r 4 [0] [(6,.b (decide (p.X < (-1000000))))] {} (TL.j 6 (decide (p.X < (-1000000))) 8 [] [0] (fun β=>[(10,.b (β || (decide (p.X > 1000000))))]) Kr {} {} (TL.r 9 [] [(11,.b ((decide (p.X < (-1000000))) || (decide (p.X > 1000000))))] {} (TL.j 11 ((decide (p.X < (-1000000))) || (decide (p.X > 1000000))) 13 [] [0] (fun β=>[(15,.b (β || (decide (p.Y < (-1000000)))))]) Kr {} {} (TL.r 14 [] [(16,.b (((decide (p.X < (-1000000))) || (decide (p.X > 1000000))) || (decide (p.Y < (-1000000)))))] {} (TL.j 16 (((decide (p.X < (-1000000))) || (decide (p.X > 1000000))) || (decide (p.Y < (-1000000)))) 18 [] [0] (fun β=>[(20,.b (β || (decide (p.Y > 1000000))))]) Kr {} {} (TL.next rfl (TC.cond ((((decide (p.X < (-1000000))) || (decide (p.X > 1000000))) || (decide (p.Y < (-1000000)))) || (decide (p.Y > 1000000))) rfl Kr (fun h1=>?_) (fun h1=>?_))))))))))))))
  · exact TC.sr (TL.r 1 [] [(2,.i 4)] {} (TL.next rfl (TC.ret (TE.rt (TE.ret [] (.i 4) {} (by unfold Yf;refine eS (fun z=>(.i z:Value)) ?_;exact Zi h1 (rfl)))))))
  · exact TC.snr (TL.r 1 [] [(2,.i 0)] {} (TL.next rfl (TC.ret (TE.ret [] (.i 0) {} (by unfold Yf;refine eS (fun z=>(.i z:Value)) ?_;exact Zb h1 (rfl))))))
def Zy (s:Zf):Int :=
  let r1:=ZH s.Time 0 200000
  cond r1 (
    4) (
    let r2:=Yf s.At
    cond (r2 != 0) (
      4) (
      let r3:=ZH s.Height 0 60000
      cond r3 (
        4) (
        let r4:=ZH s.Code (-1) 4095
        cond r4 (
          4) (
          let r5:=ZH s.Error 0 1000000
          cond r5 (
            4) (
            0)))))
set_option maxRecDepth 100000 in
theorem Xl (s:Zf) (w:World):Calls Tryz.prog 70 #[Zf.v s] w (Ret w (.int .i64 (Zy s))):=by
  refine Zk (vs:=[Zf.v s]) (w:=w) Tryz.func70 rfl Tryz.ntmps70 rfl (TC.sr (TL.nw 1 (fun b1=>.p0 b1) (fun b1=>Bk b1 (Zf.c s) 42) (fun b1=>{}) (fun b1=>TL.r 2 [] [(2,.i 0)] {} (TL.ns (TC.sr (TL.r 2 [0] [(4,.i s.Time)] {} (TL.c 5 (ZH s.Time 0 200000) (fun r1=>.b r1) (fun w _=>Xb s.Time 0 200000 w) {} (fun r1 hr1=>TL.r 4 [] [(6,.b r1)] {} (TL.split 6 r1 Kr (fun h1=>?_) (fun h1=>?_))))))))))
  · exact TL.r 24 [] [(26,.b true)] {} (TL.next rfl (TC.condT rfl Kr (TC.sr (TL.r 1 [] [(2,.i 4)] {} (TL.next rfl (TC.ret (TE.rt (TE.ret [] (.i 4) {} (by unfold Zy;refine eS (fun z=>(.i z:Value)) ?_;subst hr1;exact Zi h1 (rfl))))))))))
  · refine TL.r 6 [0] [(8,P.v s.At)] {} (TL.c 9 (Yf s.At) (fun r2=>.i r2) (fun w _=>JV s.At w) {} (fun r2 hr2=>TL.r 10 [] [(12,.b (r2 != 0))] {} (TL.split 12 (r2 != 0) Kr (fun h2=>?_) (fun h2=>?_))))
    · exact TL.r 24 [] [(26,.b true)] {} (TL.next rfl (TC.condT rfl Kr (TC.sr (TL.r 1 [] [(2,.i 4)] {} (TL.next rfl (TC.ret (TE.rt (TE.ret [] (.i 4) {} (by unfold Zy;refine eS (fun z=>(.i z:Value)) ?_;subst hr1 hr2;exact Zb h1 (Zi h2 (rfl)))))))))))
    · refine TL.r 12 [0] [(14,.i s.Height)] {} (TL.c 15 (ZH s.Height 0 60000) (fun r3=>.b r3) (fun w _=>Xb s.Height 0 60000 w) {} (fun r3 hr3=>TL.r 15 [] [(17,.b r3)] {} (TL.split 17 r3 Kr (fun h3=>?_) (fun h3=>?_))))
      · exact TL.r 24 [] [(26,.b true)] {} (TL.next rfl (TC.condT rfl Kr (TC.sr (TL.r 1 [] [(2,.i 4)] {} (TL.next rfl (TC.ret (TE.rt (TE.ret [] (.i 4) {} (by unfold Zy;refine eS (fun z=>(.i z:Value)) ?_;subst hr1 hr2 hr3;exact Zb h1 (Zb h2 (Zi h3 (rfl))))))))))))
      · refine TL.r 17 [0] [(19,.i s.Code)] {} (TL.c 20 (ZH s.Code (-1) 4095) (fun r4=>.b r4) (fun w _=>Xb s.Code (-1) 4095 w) {} (fun r4 hr4=>TL.r 20 [] [(22,.b r4)] {} (TL.split 22 r4 Kr (fun h4=>?_) (fun h4=>?_))))
        · exact TL.r 24 [] [(26,.b true)] {} (TL.next rfl (TC.condT rfl Kr (TC.sr (TL.r 1 [] [(2,.i 4)] {} (TL.next rfl (TC.ret (TE.rt (TE.ret [] (.i 4) {} (by unfold Zy;refine eS (fun z=>(.i z:Value)) ?_;subst hr1 hr2 hr3 hr4;exact Zb h1 (Zb h2 (Zb h3 (Zi h4 (rfl)))))))))))))
        · refine TL.r 22 [0] [(24,.i s.Error)] {} (TL.c 25 (ZH s.Error 0 1000000) (fun r5=>.b r5) (fun w _=>Xb s.Error 0 1000000 w) {} (fun r5 hr5=>TL.r 24 [] [(26,.b r5)] {} (TL.next rfl (TC.cond r5 rfl Kr (fun h5=>?_) (fun h5=>?_)))))
          · exact TC.sr (TL.r 1 [] [(2,.i 4)] {} (TL.next rfl (TC.ret (TE.rt (TE.ret [] (.i 4) {} (by unfold Zy;refine eS (fun z=>(.i z:Value)) ?_;subst hr1 hr2 hr3 hr4 hr5;exact Zb h1 (Zb h2 (Zb h3 (Zb h4 (Zi h5 (rfl)))))))))))
          · exact TC.snr (TL.r 1 [] [(2,.i 0)] {} (TL.next rfl (TC.ret (TE.ret [] (.i 0) {} (by unfold Zy;refine eS (fun z=>(.i z:Value)) ?_;subst hr1 hr2 hr3 hr4 hr5;exact Zb h1 (Zb h2 (Zb h3 (Zb h4 (Zb h5 (rfl))))))))))
def Qz (a:P) (b_:P):P :=
  (⟨w64 (a.X - b_.X),w64 (a.Y - b_.Y)⟩:P)
set_option maxRecDepth 100000 in
theorem GZ (a:P) (b_:P) (w:World):Calls Tryz.prog 73 #[P.v a,P.v b_] w (Ret w (P.v (Qz a b_))):=by
  exact Zk (vs:=[P.v a,P.v b_]) (w:=w) Tryz.func73 rfl Tryz.ntmps73 rfl (TC.sr (TL.nw 2 (fun b1=>.p0 b1) (fun b1=>Bk b1 (P.c a) 36) (fun b1=>{}) (fun b1=>TL.nw 3 (fun b2=>.p0 b2) (fun b2=>Bk b2 (P.c b_) 36) (fun b2=>{}) (fun b2=>TL.nw 4 (fun b3=>.p0 b3) (fun b3=>Bk b3 (P.c P.zero) 36) (fun b3=>{}) (fun b3=>TL.nr (TL.r 11 [2,1,2,1] [(15,P.v (⟨w64 (a.X - b_.X),w64 (a.Y - b_.Y)⟩:P))] {} (TL.s 0 (Bk b3 (P.c (⟨w64 (a.X - b_.X),w64 (a.Y - b_.Y)⟩:P)) 36) (fun _=>{}) (TL.next rfl (TC.ret (TE.ret [0] (P.v (⟨w64 (a.X - b_.X),w64 (a.Y - b_.Y)⟩:P)) {} (by unfold Qz;refine eS (fun z=>(P.v z:Value)) ?_;exact rfl)))))))))))
def Qp (a:P) (b_:P):P :=
  (⟨w64 (a.X + b_.X),w64 (a.Y + b_.Y)⟩:P)
set_option maxRecDepth 100000 in
theorem Wa (a:P) (b_:P) (w:World):Calls Tryz.prog 96 #[P.v a,P.v b_] w (Ret w (P.v (Qp a b_))):=by
  exact Zk (vs:=[P.v a,P.v b_]) (w:=w) Tryz.func96 rfl Tryz.ntmps96 rfl (TC.sr (TL.nw 2 (fun b1=>.p0 b1) (fun b1=>Bk b1 (P.c a) 36) (fun b1=>{}) (fun b1=>TL.nw 3 (fun b2=>.p0 b2) (fun b2=>Bk b2 (P.c b_) 36) (fun b2=>{}) (fun b2=>TL.nw 4 (fun b3=>.p0 b3) (fun b3=>Bk b3 (P.c P.zero) 36) (fun b3=>{}) (fun b3=>TL.nr (TL.r 11 [2,1,2,1] [(15,P.v (⟨w64 (a.X + b_.X),w64 (a.Y + b_.Y)⟩:P))] {} (TL.s 0 (Bk b3 (P.c (⟨w64 (a.X + b_.X),w64 (a.Y + b_.Y)⟩:P)) 36) (fun _=>{}) (TL.next rfl (TC.ret (TE.ret [0] (P.v (⟨w64 (a.X + b_.X),w64 (a.Y + b_.Y)⟩:P)) {} (by unfold Qp;refine eS (fun z=>(P.v z:Value)) ?_;exact rfl)))))))))))
def Vk (a:P) (b_:P):Int :=
  w64 ((w64 (a.X * b_.X)) + (w64 (a.Y * b_.Y)))
set_option maxRecDepth 100000 in
theorem F3 (a:P) (b_:P) (w:World):Calls Tryz.prog 151 #[P.v a,P.v b_] w (Ret w (.int .i64 (Vk a b_))):=by
  exact Zk (vs:=[P.v a,P.v b_]) (w:=w) Tryz.func151 rfl Tryz.ntmps151 rfl (TC.sr (TL.nw 2 (fun b1=>.p0 b1) (fun b1=>Bk b1 (P.c a) 36) (fun b1=>{}) (fun b1=>TL.nw 3 (fun b2=>.p0 b2) (fun b2=>Bk b2 (P.c b_) 36) (fun b2=>{}) (fun b2=>TL.r 3 [] [(4,.i 0)] {} (TL.nr (TL.r 12 [1,0,1,0] [(4,.i (w64 ((w64 (a.X * b_.X)) + (w64 (a.Y * b_.Y)))))] {} (TL.next rfl (TC.ret (TE.ret [] (.i (w64 ((w64 (a.X * b_.X)) + (w64 (a.Y * b_.Y))))) {} (by unfold Vk;refine eS (fun z=>(.i z:Value)) ?_;exact rfl))))))))))
def ZV (a:P) (b_:P):Int :=
  let r1:=Qz a b_
  let r2:=Vk r1 r1
  r2
set_option maxRecDepth 100000 in
theorem KB (a:P) (b_:P) (w:World):Calls Tryz.prog 103 #[P.v a,P.v b_] w (Ret w (.int .i64 (ZV a b_))):=by
  exact Zk (vs:=[P.v a,P.v b_]) (w:=w) Tryz.func103 rfl Tryz.ntmps103 rfl (TC.sr (TL.nw 2 (fun b1=>.p0 b1) (fun b1=>Bk b1 (P.c a) 36) (fun b1=>{}) (fun b1=>TL.nw 3 (fun b2=>.p0 b2) (fun b2=>Bk b2 (P.c b_) 36) (fun b2=>{}) (fun b2=>TL.r 3 [] [(4,.i 0)] {} (TL.nr (TL.r 2 [1,0] [(6,P.v a),(7,P.v b_)] {} (TL.c 8 (Qz a b_) (fun r1=>P.v r1) (fun w _=>GZ a b_ w) {} (fun r1 hr1=>TL.nw 5 (fun b3=>.p0 b3) (fun b3=>Bk b3 (P.c P.zero) 36) (fun b3=>{}) (fun b3=>TL.s 0 (Bk b3 (P.c r1) 36) (fun _=>{}) (TL.nr (TL.r 2 [0,0] [(9,P.v r1),(10,P.v r1)] {} (TL.c 11 (Vk r1 r1) (fun r2=>.i r2) (fun w _=>F3 r1 r1 w) {} (fun r2 hr2=>TL.r 4 [] [(4,.i r2)] {} (TL.next rfl (TC.ret (TE.ret [] (.i r2) {} (by unfold ZV;refine eS (fun z=>(.i z:Value)) ?_;subst hr1 hr2;exact rfl)))))))))))))))))
def ZQ (a:P) (b_:P) (d:Int):Bool :=
  cond ((decide (d ≥ 0)) && (decide (d ≤ 8000000))) (
    let r1:=ZV a b_
    decide (r1 ≤ (w64 (d * d)))) (
    false)
set_option maxRecDepth 100000 in
theorem QH (a:P) (b_:P) (d:Int) (w:World):Calls Tryz.prog 48 #[P.v a,P.v b_,.int .i64 d] w (Ret w (.bool (ZQ a b_ d))):=by
  refine Zk (vs:=[P.v a,P.v b_,.i d]) (w:=w) Tryz.func48 rfl Tryz.ntmps48 rfl (TC.sr (TL.nw 3 (fun b1=>.p0 b1) (fun b1=>Bk b1 (P.c a) 36) (fun b1=>{}) (fun b1=>TL.nw 4 (fun b2=>.p0 b2) (fun b2=>Bk b2 (P.c b_) 36) (fun b2=>{}) (fun b2=>TL.r 3 [] [(6,.b false)] {} (TL.nr (TL.r 3 [] [(9,.b (decide (d ≥ 0)))] {} (TL.j 9 (decide (d ≥ 0)) 6 [] [] (fun β=>[(12,.b (β && (decide (d ≤ 8000000))))]) Kr {} {} (TL.r 7 [] [(13,.b ((decide (d ≥ 0)) && (decide (d ≤ 8000000))))] {} (TL.split 13 ((decide (d ≥ 0)) && (decide (d ≤ 8000000))) Kr (fun h1=>?_) (fun h1=>?_))))))))))
  · exact TL.r 9 [1,0] [(14,P.v a),(15,P.v b_)] {} (TL.c 16 (ZV a b_) (fun r1=>.i r1) (fun w _=>KB a b_ w) {} (fun r1 hr1=>TL.r 16 [] [(6,.b (decide (r1 ≤ (w64 (d * d)))))] {} (TL.next rfl (TC.ret (TE.ret [] (.b (decide (r1 ≤ (w64 (d * d))))) {} (by unfold ZQ;refine eS (fun z=>(.b z:Value)) ?_;subst hr1;exact Zi h1 (rfl)))))))
  · exact TL.r 16 [] [(6,.b false)] {} (TL.next rfl (TC.ret (TE.ret [] (.b false) {} (by unfold ZQ;refine eS (fun z=>(.b z:Value)) ?_;exact Zb h1 (rfl)))))
def Xm (a:Int) (b_:Int):Int × Int :=
  cond (b_ == 0) (
    (0,10)) (
    cond ((a == (-9223372036854775808)) && (b_ == (-1))) (
      (0,2)) (
      cond (((a.tmod b_) != 0) && (!((decide (a < 0)) == (decide (b_ < 0))))) (
        (w64 ((w64 (a.tdiv b_)) - 1),0)) (
        (w64 (a.tdiv b_),0))))
set_option maxRecDepth 100000 in
theorem U1 (a:Int) (b_:Int) (w:World):Calls Tryz.prog 124 #[.int .i64 a,.int .i64 b_] w (Ret w (.tuple #[.int .i64 ((Xm a b_).1),.int .i64 ((Xm a b_).2)])):=by
  refine Zk (vs:=[.i a,.i b_]) (w:=w) Tryz.func124 rfl Tryz.ntmps124 rfl (TC.sr (TL.r 2 [] [(4,.i 0),(5,.i 0)] {} (TL.ns (TC.block (TC.sr (TL.r 3 [] [(7,.b (b_ == 0))] {} (TL.next rfl (TC.cond (b_ == 0) rfl Kr (fun h1=>?_) (fun h1=>?_)))))))))
  · refine TC.sr (TL.r 2 [] [(4,.i 0),(5,.i 10)] {} (TL.next rfl (TC.ret (TE.rb (TE.rt ?_)))))
    exact TE.ret [] (.tuple #[.i 0,.i 10]) {} (by unfold Xm;refine eS (a:=(0,10)) (fun (z:Int × Int)=>(.tuple #[.i z.1,.i z.2]:Value)) ?_;exact Zi h1 (rfl))
  · have q1_0:=(ZN h1)
    refine TC.sr (TL.r 3 [] [(13,.b (a == (-9223372036854775808)))] {} (TL.j 13 (a == (-9223372036854775808)) 6 [] [] (fun β=>[(16,.b (β && (b_ == (-1))))]) Kr {} {} (TL.r 7 [] [(10,.b ((a == (-9223372036854775808)) && (b_ == (-1))))] {} (TL.next rfl (TC.cond ((a == (-9223372036854775808)) && (b_ == (-1))) rfl Kr (fun h2=>?_) (fun h2=>?_))))))
    · refine TC.sr (TL.r 2 [] [(4,.i 0),(5,.i 2)] {} (TL.next rfl (TC.ret (TE.rb (TE.rt ?_)))))
      exact TE.ret [] (.tuple #[.i 0,.i 2]) {} (by unfold Xm;refine eS (a:=(0,2)) (fun (z:Int × Int)=>(.tuple #[.i z.1,.i z.2]:Value)) ?_;exact Zb h1 (Zi h2 (rfl)))
    · have q2_0:=((Xw h2).imp (fun h=>(ZN h)) (fun h=>(ZN h)))
      refine TC.skip (TE.nb (TE.nr (TL.r 2 [] [(17,.i a),(18,.i b_)] {} (TL.v (sV (binOp .quo 3 (.i a) (.i b_))) 19 (.i (w64 (a.tdiv b_))) (fun w hM=>MO sdr) {} (TL.r 4 [] [(6,.i (w64 (a.tdiv b_)))] {} (TL.ns (TC.sr (TL.r 2 [] [(20,.i a),(21,.i b_)] {} (TL.v (sV (binOp .rem 3 (.i a) (.i b_))) 22 (.i (a.tmod b_)) (fun w hM=>Ww sdr) {} (TL.r 5 [] [(24,.b ((a.tmod b_) != 0))] {} (TL.j 24 ((a.tmod b_) != 0) 11 [] [] (fun β=>[(30,.b (β && (!((decide (a < 0)) == (decide (b_ < 0))))))]) Kr {} {} (TL.next rfl (TC.cond (((a.tmod b_) != 0) && (!((decide (a < 0)) == (decide (b_ < 0))))) rfl Kr (fun h3=>?_) (fun h3=>?_))))))))))))))
      · exact TC.region (TL.r 3 [] [(6,.i (w64 ((w64 (a.tdiv b_)) - 1)))] {} (TL.nr (TL.r 3 [] [(4,.i (w64 ((w64 (a.tdiv b_)) - 1))),(5,.i 0)] {} (TL.next rfl (TC.ret (TE.ret [] (.tuple #[.i (w64 ((w64 (a.tdiv b_)) - 1)),.i 0]) {} (by unfold Xm;refine eS (a:=(w64 ((w64 (a.tdiv b_)) - 1),0)) (fun (z:Int × Int)=>(.tuple #[.i z.1,.i z.2]:Value)) ?_;exact Zb h1 (Zb h2 (Zi h3 (rfl))))))))))
      · exact TC.snr (TL.r 3 [] [(4,.i (w64 (a.tdiv b_))),(5,.i 0)] {} (TL.next rfl (TC.ret (TE.ret [] (.tuple #[.i (w64 (a.tdiv b_)),.i 0]) {} (by unfold Xm;refine eS (a:=(w64 (a.tdiv b_),0)) (fun (z:Int × Int)=>(.tuple #[.i z.1,.i z.2]:Value)) ?_;exact Zb h1 (Zb h2 (Zb h3 (rfl))))))))
def X1 (a:Int) (b_:Int):Int × Int :=
  let r1:=Xm a b_
  cond (r1.2 == 0) (
    cond ((a.tmod b_) != 0) (
      (w64 (r1.1 + 1),r1.2)) (
      (r1.1,r1.2))) (
    (r1.1,r1.2))
theorem RV {a b:Int} {r:Int × Int} (hr:Xm a b=r) (h:(r.2 == 0)=true):b ≠ 0:=by
  rintro rfl;subst hr;revert h;simp [Xm]
set_option maxRecDepth 100000 in
theorem Ku (a:Int) (b_:Int) (w:World):Calls Tryz.prog 125 #[.int .i64 a,.int .i64 b_] w (Ret w (.tuple #[.int .i64 ((X1 a b_).1),.int .i64 ((X1 a b_).2)])):=by
  refine Zk (vs:=[.i a,.i b_]) (w:=w) Tryz.func125 rfl Tryz.ntmps125 rfl (TC.sr (TL.r 2 [] [(4,.i 0),(5,.i 0)] {} (TL.nr (TL.r 2 [] [(9,.i a),(10,.i b_)] {} (TL.c 11 (Xm a b_) (fun r1=>.tuple #[.i r1.1,.i r1.2]) (fun w _=>U1 a b_ w) {} (fun r1 hr1=>TL.r 8 [] [(6,.i r1.1),(7,.i r1.2)] {} (TL.ns (TC.sr (TL.r 3 [] [(16,.b (r1.2 == 0))] {} (TL.split 16 (r1.2 == 0) Kr (fun h1=>?_) (fun h1=>?_)))))))))))
  · refine TL.r 5 [] [(17,.i a),(18,.i b_)] {} (TL.v (sV (binOp .rem 3 (.i a) (.i b_))) 19 (.i (a.tmod b_)) (fun w hM=>Ww (RV hr1 h1)) {} (TL.r 8 [] [(21,.b ((a.tmod b_) != 0))] {} (TL.next rfl (TC.cond ((a.tmod b_) != 0) rfl Kr (fun h2=>?_) (fun h2=>?_)))))
    · exact TC.region (TL.r 3 [] [(6,.i (w64 (r1.1 + 1)))] {} (TL.nr (TL.r 4 [] [(4,.i (w64 (r1.1 + 1))),(5,.i r1.2)] {} (TL.next rfl (TC.ret (TE.ret [] (.tuple #[.i (w64 (r1.1 + 1)),.i r1.2]) {} (by unfold X1;refine eS (a:=(w64 (r1.1 + 1),r1.2)) (fun (z:Int × Int)=>(.tuple #[.i z.1,.i z.2]:Value)) ?_;subst hr1;exact Zi h1 (Zi h2 (rfl)))))))))
    · exact TC.snr (TL.r 4 [] [(4,.i r1.1),(5,.i r1.2)] {} (TL.next rfl (TC.ret (TE.ret [] (.tuple #[.i r1.1,.i r1.2]) {} (by unfold X1;refine eS (a:=(r1.1,r1.2)) (fun (z:Int × Int)=>(.tuple #[.i z.1,.i z.2]:Value)) ?_;subst hr1;exact Zi h1 (Zb h2 (rfl)))))))
  · exact TL.r 8 [] [(21,.b false)] {} (TL.next rfl (TC.condF rfl Kr (TC.snr (TL.r 4 [] [(4,.i r1.1),(5,.i r1.2)] {} (TL.next rfl (TC.ret (TE.ret [] (.tuple #[.i r1.1,.i r1.2]) {} (by unfold X1;refine eS (a:=(r1.1,r1.2)) (fun (z:Int × Int)=>(.tuple #[.i z.1,.i z.2]:Value)) ?_;subst hr1;exact Zb h1 (rfl)))))))))
def Xn (n:Int) (low:Int) (high:Int):Int :=
  cond ((decide (n < low)) || (decide (low > high))) (
    low) (
    cond (decide (n > high)) (
      high) (
      n))
set_option maxRecDepth 100000 in
theorem U2 (n:Int) (low:Int) (high:Int) (w:World):Calls Tryz.prog 100 #[.int .i64 n,.int .i64 low,.int .i64 high] w (Ret w (.int .i64 (Xn n low high))):=by
  refine Zk (vs:=[.i n,.i low,.i high]) (w:=w) Tryz.func100 rfl Tryz.ntmps100 rfl (TC.sr (TL.r 1 [] [(6,.i 0)] {} (TL.ns (TC.block (TC.sr (TL.r 4 [] [(11,.b (decide (n < low)))] {} (TL.j 11 (decide (n < low)) 8 [] [] (fun β=>[(15,.b (β || (decide (low > high))))]) Kr {} {} (TL.r 9 [] [(7,.b ((decide (n < low)) || (decide (low > high))))] {} (TL.next rfl (TC.cond ((decide (n < low)) || (decide (low > high))) rfl Kr (fun h1=>?_) (fun h1=>?_)))))))))))
  · refine TC.sr (TL.r 2 [] [(6,.i low)] {} (TL.next rfl (TC.ret (TE.rb (TE.rt ?_)))))
    exact TE.ret [] (.i low) {} (by unfold Xn;refine eS (fun z=>(.i z:Value)) ?_;exact Zi h1 (rfl))
  · refine TC.sr (TL.r 4 [] [(17,.b (decide (n > high)))] {} (TL.next rfl (TC.cond (decide (n > high)) rfl Kr (fun h2=>?_) (fun h2=>?_))))
    · refine TC.sr (TL.r 2 [] [(6,.i high)] {} (TL.next rfl (TC.ret (TE.rb (TE.rt ?_)))))
      exact TE.ret [] (.i high) {} (by unfold Xn;refine eS (fun z=>(.i z:Value)) ?_;exact Zb h1 (Zi h2 (rfl)))
    · exact TC.skip (TE.nb (TE.nr (TL.r 2 [] [(6,.i n)] {} (TL.next rfl (TC.ret (TE.ret [] (.i n) {} (by unfold Xn;refine eS (fun z=>(.i z:Value)) ?_;exact Zb h1 (Zb h2 (rfl)))))))))
def YE (t:Track):Int :=
  let r1:=Zy (⟨t.Time,t.At,t.Height,t.Code,0⟩:Zf)
  cond (((r1 != 0) || (decide (t.Radius < 0))) || (decide (t.Radius > 4000000))) (
    4) (
    0)
set_option maxRecDepth 100000 in
theorem KU (t:Track) (w:World):Calls Tryz.prog 102 #[Track.v t] w (Ret w (.int .i64 (YE t))):=by
  refine Zk (vs:=[Track.v t]) (w:=w) Tryz.func102 rfl Tryz.ntmps102 rfl (TC.sr (TL.nw 1 (fun b1=>.p0 b1) (fun b1=>Bk b1 (Track.c t) 40) (fun b1=>{}) (fun b1=>TL.r 2 [] [(2,.i 0)] {} (TL.ns (TC.sr (TL.r 9 [0,0,0,0] [(11,Zf.v (⟨t.Time,t.At,t.Height,t.Code,0⟩:Zf))] {} (TL.c 12 (Zy (⟨t.Time,t.At,t.Height,t.Code,0⟩:Zf)) (fun r1=>.i r1) (fun w _=>Xl (⟨t.Time,t.At,t.Height,t.Code,0⟩:Zf) w) {} (fun r1 hr1=>TL.r 12 [] [(14,.b (r1 != 0))] {} (TL.j 14 (r1 != 0) 16 [] [0] (fun β=>[(18,.b (β || (decide (t.Radius < 0))))]) Kr {} {} (TL.r 17 [] [(19,.b ((r1 != 0) || (decide (t.Radius < 0))))] {} (TL.j 19 ((r1 != 0) || (decide (t.Radius < 0))) 21 [] [0] (fun β=>[(23,.b (β || (decide (t.Radius > 4000000))))]) Kr {} {} (TL.next rfl (TC.cond (((r1 != 0) || (decide (t.Radius < 0))) || (decide (t.Radius > 4000000))) rfl Kr (fun h1=>?_) (fun h1=>?_))))))))))))))
  · exact TC.sr (TL.r 1 [] [(2,.i 4)] {} (TL.next rfl (TC.ret (TE.rt (TE.ret [] (.i 4) {} (by unfold YE;refine eS (fun z=>(.i z:Value)) ?_;subst hr1;exact Zi h1 (rfl)))))))
  · exact TC.snr (TL.r 1 [] [(2,.i 0)] {} (TL.next rfl (TC.ret (TE.ret [] (.i 0) {} (by unfold YE;refine eS (fun z=>(.i z:Value)) ?_;subst hr1;exact Zb h1 (rfl))))))
def Qr (slack:Int) (accel:Int) (seconds:Int):Int × Int :=
  cond ((((decide (slack < 0)) || (decide (slack > 409600))) || (decide (accel < 0))) || (decide (accel > 20))) (
    (0,4)) (
    cond ((decide (seconds < 0)) || (decide (seconds > 600))) (
      (0,12)) (
      cond (seconds == 0) (
        (0,0)) (
        let r1:=X1 (w64 (slack * seconds)) 16
        let r2:=X1 (w64 ((w64 (accel * seconds)) * seconds)) 2
        (w64 ((w64 (r1.1 + r2.1)) + 2),0))))
set_option maxRecDepth 100000 in
theorem BN (slack:Int) (accel:Int) (seconds:Int) (w:World):Calls Tryz.prog 101 #[.int .i64 slack,.int .i64 accel,.int .i64 seconds] w (Ret w (.tuple #[.int .i64 ((Qr slack accel seconds).1),.int .i64 ((Qr slack accel seconds).2)])):=by
  refine Zk (vs:=[.i slack,.i accel,.i seconds]) (w:=w) Tryz.func101 rfl Tryz.ntmps101 rfl (TC.sr (TL.r 2 [] [(6,.i 0),(7,.i 0)] {} (TL.ns (TC.block (TC.sr (TL.r 3 [] [(15,.b (decide (slack < 0)))] {} (TL.j 15 (decide (slack < 0)) 6 [] [] (fun β=>[(18,.b (β || (decide (slack > 409600))))]) Kr {} {} (TL.r 7 [] [(19,.b ((decide (slack < 0)) || (decide (slack > 409600))))] {} (TL.j 19 ((decide (slack < 0)) || (decide (slack > 409600))) 10 [] [] (fun β=>[(22,.b (β || (decide (accel < 0))))]) Kr {} {} (TL.r 11 [] [(23,.b (((decide (slack < 0)) || (decide (slack > 409600))) || (decide (accel < 0))))] {} (TL.j 23 (((decide (slack < 0)) || (decide (slack > 409600))) || (decide (accel < 0))) 14 [] [] (fun β=>[(26,.b (β || (decide (accel > 20))))]) Kr {} {} (TL.r 15 [] [(12,.b ((((decide (slack < 0)) || (decide (slack > 409600))) || (decide (accel < 0))) || (decide (accel > 20))))] {} (TL.next rfl (TC.cond ((((decide (slack < 0)) || (decide (slack > 409600))) || (decide (accel < 0))) || (decide (accel > 20))) rfl Kr (fun h1=>?_) (fun h1=>?_)))))))))))))))
  · refine TC.sr (TL.r 2 [] [(6,.i 0),(7,.i 4)] {} (TL.next rfl (TC.ret (TE.rb (TE.rt ?_)))))
    exact TE.ret [] (.tuple #[.i 0,.i 4]) {} (by unfold Qr;refine eS (a:=(0,4)) (fun (z:Int × Int)=>(.tuple #[.i z.1,.i z.2]:Value)) ?_;exact Zi h1 (rfl))
  · refine TC.sr (TL.r 3 [] [(30,.b (decide (seconds < 0)))] {} (TL.j 30 (decide (seconds < 0)) 6 [] [] (fun β=>[(33,.b (β || (decide (seconds > 600))))]) Kr {} {} (TL.r 7 [] [(27,.b ((decide (seconds < 0)) || (decide (seconds > 600))))] {} (TL.next rfl (TC.cond ((decide (seconds < 0)) || (decide (seconds > 600))) rfl Kr (fun h2=>?_) (fun h2=>?_))))))
    · refine TC.sr (TL.r 2 [] [(6,.i 0),(7,.i 12)] {} (TL.next rfl (TC.ret (TE.rb (TE.rt ?_)))))
      exact TE.ret [] (.tuple #[.i 0,.i 12]) {} (by unfold Qr;refine eS (a:=(0,12)) (fun (z:Int × Int)=>(.tuple #[.i z.1,.i z.2]:Value)) ?_;exact Zb h1 (Zi h2 (rfl)))
    · refine TC.sr (TL.r 3 [] [(34,.b (seconds == 0))] {} (TL.next rfl (TC.cond (seconds == 0) rfl Kr (fun h3=>?_) (fun h3=>?_))))
      · refine TC.sr (TL.r 2 [] [(6,.i 0),(7,.i 0)] {} (TL.next rfl (TC.ret (TE.rb (TE.rt ?_)))))
        exact TE.ret [] (.tuple #[.i 0,.i 0]) {} (by unfold Qr;refine eS (a:=(0,0)) (fun (z:Int × Int)=>(.tuple #[.i z.1,.i z.2]:Value)) ?_;exact Zb h1 (Zb h2 (Zi h3 (rfl))))
      · exact TC.skip (TE.nb (TE.nr (TL.r 3 [] [(40,.i (w64 (slack * seconds)))] {} (TL.c 41 (X1 (w64 (slack * seconds)) 16) (fun r1=>.tuple #[.i r1.1,.i r1.2]) (fun w _=>Ku (w64 (slack * seconds)) 16 w) {} (fun r1 hr1=>TL.r 9 [] [(8,.i r1.1)] {} (TL.nr (TL.r 5 [] [(49,.i (w64 ((w64 (accel * seconds)) * seconds)))] {} (TL.c 50 (X1 (w64 ((w64 (accel * seconds)) * seconds)) 2) (fun r2=>.tuple #[.i r2.1,.i r2.2]) (fun w _=>Ku (w64 ((w64 (accel * seconds)) * seconds)) 2 w) {} (fun r2 hr2=>TL.r 11 [] [(10,.i r2.1)] {} (TL.nr (TL.r 6 [] [(6,.i (w64 ((w64 (r1.1 + r2.1)) + 2))),(7,.i 0)] {} (TL.next rfl (TC.ret (TE.ret [] (.tuple #[.i (w64 ((w64 (r1.1 + r2.1)) + 2)),.i 0]) {} (by unfold Qr;refine eS (a:=(w64 ((w64 (r1.1 + r2.1)) + 2),0)) (fun (z:Int × Int)=>(.tuple #[.i z.1,.i z.2]:Value)) ?_;subst hr1 hr2;exact Zb h1 (Zb h2 (Zb h3 (rfl))))))))))))))))))
def ZX (n:Int) (low:Int) (high:Int):Bool :=
  (decide (n < low)) || (decide (n > high))
set_option maxRecDepth 100000 in
theorem XN (n:Int) (low:Int) (high:Int) (w:World):Calls Tryz.prog 98 #[.int .i64 n,.int .i64 low,.int .i64 high] w (Ret w (.bool (ZX n low high))):=by
  exact Zk (vs:=[.i n,.i low,.i high]) (w:=w) Tryz.func98 rfl Tryz.ntmps98 rfl (TC.sr (TL.r 1 [] [(6,.b false)] {} (TL.nr (TL.r 4 [] [(10,.b (decide (n < low)))] {} (TL.j 10 (decide (n < low)) 8 [] [] (fun β=>[(14,.b (β || (decide (n > high))))]) Kr {} {} (TL.r 9 [] [(6,.b ((decide (n < low)) || (decide (n > high))))] {} (TL.next rfl (TC.ret (TE.ret [] (.b ((decide (n < low)) || (decide (n > high)))) {} (by unfold ZX;refine eS (fun z=>(.b z:Value)) ?_;exact rfl))))))))))
def Z1 (f:Za):Int :=
  let r1:=YE f.Track
  cond (r1 != 0) (
    r1) (
    let r2:=ZX f.Track.Speed.X (-12800) 12800
    cond r2 (
      4) (
      let r3:=ZX f.Track.Speed.Y (-12800) 12800
      cond r3 (
        4) (
        let r4:=ZX f.Track.Rate (-3200) 3200
        cond r4 (
          4) (
          let r5:=ZX f.Slack 0 409600
          cond (((r5 || (decide (f.Track.ID < 0))) || (decide (f.Track.Hits < 0))) || (decide (f.Track.Misses < 0))) (
            4) (
            let r6:=ZX f.Track.State 0 2
            cond r6 (
              1) (
              let r7:=Zy f.Last
              cond (r7 != 0) (
                r7) (
                cond (decide (f.Last.Time > f.Track.Time)) (
                  12) (
                  0))))))))
set_option maxHeartbeats 4000000 in
set_option maxRecDepth 100000 in
theorem XA (f:Za) (w:World):Calls Tryz.prog 46 #[Za.v f] w (Ret w (.int .i64 (Z1 f))):=by
  refine Zk (vs:=[Za.v f]) (w:=w) Tryz.func46 rfl Tryz.ntmps46 rfl (TC.sr (TL.nw 1 (fun b1=>.p0 b1) (fun b1=>Bk b1 (Za.c f) 44) (fun b1=>{}) (fun b1=>TL.r 2 [] [(2,.i 0)] {} (TL.nr (TL.r 2 [0] [(7,Track.v f.Track)] {} (TL.nw 3 (fun b2=>.p0 b2) (fun b2=>Bk b2 (Track.c Track.zero) 40) (fun b2=>{}) (fun b2=>TL.s 0 (Bk b2 (Track.c f.Track) 40) (fun _=>{}) (TL.ns (TC.sr (TL.r 1 [0] [(8,Track.v f.Track)] {} (TL.c 9 (YE f.Track) (fun r1=>.i r1) (fun w _=>KU f.Track w) {} (fun r1 hr1=>TL.r 3 [] [(4,.i r1)] {} (TL.nr (TL.r 2 [] [(11,.b (r1 != 0))] {} (TL.next rfl (TC.cond (r1 != 0) rfl Kr (fun h1=>?_) (fun h1=>?_)))))))))))))))))
  · exact TC.sr (TL.r 2 [] [(2,.i r1)] {} (TL.next rfl (TC.ret (TE.rt (TE.ret [] (.i r1) {} (by unfold Z1;refine eS (fun z=>(.i z:Value)) ?_;subst hr1;exact Zi h1 (rfl)))))))
  · refine TC.sn (TC.seq (TC.sr (TL.r 3 [0] [(15,.i f.Track.Speed.X)] {} (TL.c 16 (ZX f.Track.Speed.X (-12800) 12800) (fun r2=>.b r2) (fun w _=>XN f.Track.Speed.X (-12800) 12800 w) {} (fun r2 hr2=>TL.r 5 [] [(17,.b r2)] {} (TL.split 17 r2 Kr (fun h2=>?_) (fun h2=>?_)))))))
    · exact TL.r 35 [] [(47,.b true)] {} (TL.next rfl (TC.condT rfl Kr (TC.sr (TL.r 1 [] [(2,.i 4)] {} (TL.next rfl (TC.ret (TE.rt (TE.ret [] (.i 4) {} (by unfold Z1;refine eS (fun z=>(.i z:Value)) ?_;subst hr1 hr2;exact Zb h1 (Zi h2 (rfl)))))))))))
    · refine TL.r 8 [0] [(20,.i f.Track.Speed.Y)] {} (TL.c 21 (ZX f.Track.Speed.Y (-12800) 12800) (fun r3=>.b r3) (fun w _=>XN f.Track.Speed.Y (-12800) 12800 w) {} (fun r3 hr3=>TL.r 11 [] [(23,.b r3)] {} (TL.split 23 r3 Kr (fun h3=>?_) (fun h3=>?_))))
      · exact TL.r 35 [] [(47,.b true)] {} (TL.next rfl (TC.condT rfl Kr (TC.sr (TL.r 1 [] [(2,.i 4)] {} (TL.next rfl (TC.ret (TE.rt (TE.ret [] (.i 4) {} (by unfold Z1;refine eS (fun z=>(.i z:Value)) ?_;subst hr1 hr2 hr3;exact Zb h1 (Zb h2 (Zi h3 (rfl))))))))))))
      · refine TL.r 13 [0] [(25,.i f.Track.Rate)] {} (TL.c 26 (ZX f.Track.Rate (-3200) 3200) (fun r4=>.b r4) (fun w _=>XN f.Track.Rate (-3200) 3200 w) {} (fun r4 hr4=>TL.r 16 [] [(28,.b r4)] {} (TL.split 28 r4 Kr (fun h4=>?_) (fun h4=>?_))))
        · exact TL.r 35 [] [(47,.b true)] {} (TL.next rfl (TC.condT rfl Kr (TC.sr (TL.r 1 [] [(2,.i 4)] {} (TL.next rfl (TC.ret (TE.rt (TE.ret [] (.i 4) {} (by unfold Z1;refine eS (fun z=>(.i z:Value)) ?_;subst hr1 hr2 hr3 hr4;exact Zb h1 (Zb h2 (Zb h3 (Zi h4 (rfl)))))))))))))
        · refine TL.r 18 [1] [(30,.i f.Slack)] {} (TL.c 31 (ZX f.Slack 0 409600) (fun r5=>.b r5) (fun w _=>XN f.Slack 0 409600 w) {} (fun r5 hr5=>TL.r 21 [] [(33,.b r5)] {} (TL.j 33 r5 25 [] [0] (fun β=>[(37,.b (β || (decide (f.Track.ID < 0))))]) Kr {} {} (TL.r 26 [] [(38,.b (r5 || (decide (f.Track.ID < 0))))] {} (TL.j 38 (r5 || (decide (f.Track.ID < 0))) 30 [] [0] (fun β=>[(42,.b (β || (decide (f.Track.Hits < 0))))]) Kr {} {} (TL.r 31 [] [(43,.b ((r5 || (decide (f.Track.ID < 0))) || (decide (f.Track.Hits < 0))))] {} (TL.j 43 ((r5 || (decide (f.Track.ID < 0))) || (decide (f.Track.Hits < 0))) 35 [] [0] (fun β=>[(47,.b (β || (decide (f.Track.Misses < 0))))]) Kr {} {} (TL.next rfl (TC.cond (((r5 || (decide (f.Track.ID < 0))) || (decide (f.Track.Hits < 0))) || (decide (f.Track.Misses < 0))) rfl Kr (fun h5=>?_) (fun h5=>?_))))))))))
          · exact TC.sr (TL.r 1 [] [(2,.i 4)] {} (TL.next rfl (TC.ret (TE.rt (TE.ret [] (.i 4) {} (by unfold Z1;refine eS (fun z=>(.i z:Value)) ?_;subst hr1 hr2 hr3 hr4 hr5;exact Zb h1 (Zb h2 (Zb h3 (Zb h4 (Zi h5 (rfl)))))))))))
          · refine TC.sn (TC.seq (TC.sr (TL.r 2 [0] [(49,.i f.Track.State)] {} (TL.c 50 (ZX f.Track.State 0 2) (fun r6=>.b r6) (fun w _=>XN f.Track.State 0 2 w) {} (fun r6 hr6=>TL.next rfl (TC.cond r6 rfl Kr (fun h6=>?_) (fun h6=>?_)))))))
            · exact TC.sr (TL.r 1 [] [(2,.i 1)] {} (TL.next rfl (TC.ret (TE.rt (TE.ret [] (.i 1) {} (by unfold Z1;refine eS (fun z=>(.i z:Value)) ?_;subst hr1 hr2 hr3 hr4 hr5 hr6;exact Zb h1 (Zb h2 (Zb h3 (Zb h4 (Zb h5 (Zi h6 (rfl))))))))))))
            · refine TC.sn (TC.seq (TC.sr (TL.r 2 [1] [(52,Zf.v f.Last)] {} (TL.c 53 (Zy f.Last) (fun r7=>.i r7) (fun w _=>Xl f.Last w) {} (fun r7 hr7=>TL.r 4 [] [(5,.i r7)] {} (TL.nr (TL.r 2 [] [(55,.b (r7 != 0))] {} (TL.next rfl (TC.cond (r7 != 0) rfl Kr (fun h7=>?_) (fun h7=>?_))))))))))
              · exact TC.sr (TL.r 2 [] [(2,.i r7)] {} (TL.next rfl (TC.ret (TE.rt (TE.ret [] (.i r7) {} (by unfold Z1;refine eS (fun z=>(.i z:Value)) ?_;subst hr1 hr2 hr3 hr4 hr5 hr6 hr7;exact Zb h1 (Zb h2 (Zb h3 (Zb h4 (Zb h5 (Zb h6 (Zi h7 (rfl)))))))))))))
              · refine TC.sn (TC.seq (TC.sr (TL.r 6 [1,0] [(62,.b (decide (f.Last.Time > f.Track.Time)))] {} (TL.next rfl (TC.cond (decide (f.Last.Time > f.Track.Time)) rfl Kr (fun h8=>?_) (fun h8=>?_))))))
                · exact TC.sr (TL.r 1 [] [(2,.i 12)] {} (TL.next rfl (TC.ret (TE.rt (TE.ret [] (.i 12) {} (by unfold Z1;refine eS (fun z=>(.i z:Value)) ?_;subst hr1 hr2 hr3 hr4 hr5 hr6 hr7;exact Zb h1 (Zb h2 (Zb h3 (Zb h4 (Zb h5 (Zb h6 (Zb h7 (Zi h8 (rfl))))))))))))))
                · exact TC.snr (TL.r 1 [] [(2,.i 0)] {} (TL.next rfl (TC.ret (TE.ret [] (.i 0) {} (by unfold Z1;refine eS (fun z=>(.i z:Value)) ?_;subst hr1 hr2 hr3 hr4 hr5 hr6 hr7;exact Zb h1 (Zb h2 (Zb h3 (Zb h4 (Zb h5 (Zb h6 (Zb h7 (Zb h8 (rfl)))))))))))))
def Yh (s:Zf):Za × Int :=
  let r1:=Zy s
  cond (r1 != 0) (
    ((⟨⟨0,0,0,⟨0,0⟩,⟨0,0⟩,0,0,0,0,0,0⟩,0,⟨0,⟨0,0⟩,0,0,0⟩⟩:Za),r1)) (
    ((⟨⟨0,0,s.Time,s.At,⟨0,0⟩,s.Height,0,s.Error,s.Code,1,0⟩,6400,s⟩:Za),0))
set_option maxRecDepth 100000 in
theorem WM (s:Zf) (w:World):Calls Tryz.prog 56 #[Zf.v s] w (Ret w (.tuple #[Za.v ((Yh s).1),.int .i64 ((Yh s).2)])):=by
  refine Zk (vs:=[Zf.v s]) (w:=w) Tryz.func56 rfl Tryz.ntmps56 rfl (TC.sr (TL.nw 1 (fun b1=>.p0 b1) (fun b1=>Bk b1 (Zf.c s) 42) (fun b1=>{}) (fun b1=>TL.nw 2 (fun b2=>.p0 b2) (fun b2=>Bk b2 (Za.c Za.zero) 44) (fun b2=>{}) (fun b2=>TL.r 3 [] [(3,.i 0)] {} (TL.ns (TC.sr (TL.r 1 [1] [(5,Zf.v s)] {} (TL.c 6 (Zy s) (fun r1=>.i r1) (fun w _=>Xl s w) {} (fun r1 hr1=>TL.r 3 [] [(4,.i r1)] {} (TL.nr (TL.r 2 [] [(8,.b (r1 != 0))] {} (TL.next rfl (TC.cond (r1 != 0) rfl Kr (fun h1=>?_) (fun h1=>?_))))))))))))))
  · exact TC.sr (TL.r 2 [] [(9,Za.v Za.zero),(10,.i r1)] {} (TL.s 0 (Bk b2 (Za.c Za.zero) 44) (fun _=>{}) (TL.r 4 [] [(3,.i r1)] {} (TL.next rfl (TC.ret (TE.rt (TE.ret [0] (.tuple #[Za.v (⟨⟨0,0,0,⟨0,0⟩,⟨0,0⟩,0,0,0,0,0,0⟩,0,⟨0,⟨0,0⟩,0,0,0⟩⟩:Za),.i r1]) {} (by unfold Yh;refine eS (a:=((⟨⟨0,0,0,⟨0,0⟩,⟨0,0⟩,0,0,0,0,0,0⟩,0,⟨0,⟨0,0⟩,0,0,0⟩⟩:Za),r1)) (fun (z:Za × Int)=>(.tuple #[Za.v z.1,.i z.2]:Value)) ?_;subst hr1;exact Zi h1 (rfl)))))))))
  · exact TC.snr (TL.r 13 [1,1,1,1,1,1] [(23,Za.v (⟨⟨0,0,s.Time,s.At,⟨0,0⟩,s.Height,0,s.Error,s.Code,1,0⟩,6400,s⟩:Za))] {} (TL.s 0 (Bk b2 (Za.c (⟨⟨0,0,s.Time,s.At,⟨0,0⟩,s.Height,0,s.Error,s.Code,1,0⟩,6400,s⟩:Za)) 44) (fun _=>{}) (TL.r 15 [] [(3,.i 0)] {} (TL.next rfl (TC.ret (TE.ret [0] (.tuple #[Za.v (⟨⟨0,0,s.Time,s.At,⟨0,0⟩,s.Height,0,s.Error,s.Code,1,0⟩,6400,s⟩:Za),.i 0]) {} (by unfold Yh;refine eS (a:=((⟨⟨0,0,s.Time,s.At,⟨0,0⟩,s.Height,0,s.Error,s.Code,1,0⟩,6400,s⟩:Za),0)) (fun (z:Za × Int)=>(.tuple #[Za.v z.1,.i z.2]:Value)) ?_;subst hr1;exact Zb h1 (rfl))))))))
def ZT (a:Int) (b_:Int):Int :=
  let r1:=Xm a b_
  r1.1
set_option maxRecDepth 100000 in
theorem Q8 (a:Int) (b_:Int) (w:World):Calls Tryz.prog 99 #[.int .i64 a,.int .i64 b_] w (Ret w (.int .i64 (ZT a b_))):=by
  exact Zk (vs:=[.i a,.i b_]) (w:=w) Tryz.func99 rfl Tryz.ntmps99 rfl (TC.sr (TL.r 1 [] [(4,.i 0)] {} (TL.nr (TL.r 2 [] [(8,.i a),(9,.i b_)] {} (TL.c 10 (Xm a b_) (fun r1=>.tuple #[.i r1.1,.i r1.2]) (fun w _=>U1 a b_ w) {} (fun r1 hr1=>TL.r 8 [] [(5,.i r1.1)] {} (TL.nr (TL.r 2 [] [(4,.i r1.1)] {} (TL.next rfl (TC.ret (TE.ret [] (.i r1.1) {} (by unfold ZT;refine eS (fun z=>(.i z:Value)) ?_;subst hr1;exact rfl))))))))))))
def XV (a:Int) (b_:Int):Int :=
  let r1:=X1 a b_
  r1.1
set_option maxRecDepth 100000 in
theorem VR (a:Int) (b_:Int) (w:World):Calls Tryz.prog 112 #[.int .i64 a,.int .i64 b_] w (Ret w (.int .i64 (XV a b_))):=by
  exact Zk (vs:=[.i a,.i b_]) (w:=w) Tryz.func112 rfl Tryz.ntmps112 rfl (TC.sr (TL.r 1 [] [(4,.i 0)] {} (TL.nr (TL.r 2 [] [(8,.i a),(9,.i b_)] {} (TL.c 10 (X1 a b_) (fun r1=>.tuple #[.i r1.1,.i r1.2]) (fun w _=>Ku a b_ w) {} (fun r1 hr1=>TL.r 8 [] [(5,.i r1.1)] {} (TL.nr (TL.r 2 [] [(4,.i r1.1)] {} (TL.next rfl (TC.ret (TE.ret [] (.i r1.1) {} (by unfold XV;refine eS (fun z=>(.i z:Value)) ?_;subst hr1;exact rfl))))))))))))
def Zq (f:Za) (time:Int) (accel:Int):Za × Int :=
  let r1:=Z1 f
  cond (r1 != 0) (
    ((⟨⟨0,0,0,⟨0,0⟩,⟨0,0⟩,0,0,0,0,0,0⟩,0,⟨0,⟨0,0⟩,0,0,0⟩⟩:Za),r1)) (
    let r2:=ZX time 0 200000
    cond r2 (
      ((⟨⟨0,0,0,⟨0,0⟩,⟨0,0⟩,0,0,0,0,0,0⟩,0,⟨0,⟨0,0⟩,0,0,0⟩⟩:Za),4)) (
      let r3:=ZX accel 0 20
      cond r3 (
        ((⟨⟨0,0,0,⟨0,0⟩,⟨0,0⟩,0,0,0,0,0,0⟩,0,⟨0,⟨0,0⟩,0,0,0⟩⟩:Za),4)) (
        let r4:=ZX (w64 (time - f.Track.Time)) 0 600
        cond r4 (
          ((⟨⟨0,0,0,⟨0,0⟩,⟨0,0⟩,0,0,0,0,0,0⟩,0,⟨0,⟨0,0⟩,0,0,0⟩⟩:Za),12)) (
          cond ((w64 (time - f.Track.Time)) == 0) (
            (f,0)) (
            let r5:=ZT (w64 (f.Track.Speed.X * (w64 (time - f.Track.Time)))) 16
            let r6:=ZT (w64 (f.Track.Speed.Y * (w64 (time - f.Track.Time)))) 16
            let r7:=Qp f.Track.At (⟨r5,r6⟩:P)
            let r8:=ZT (w64 (f.Track.Rate * (w64 (time - f.Track.Time)))) 16
            let r9:=Xn (w64 (f.Track.Height + r8)) 0 60000
            let r10:=Qr f.Slack accel (w64 (time - f.Track.Time))
            let r11:=Z1 (⟨⟨f.Track.ID,f.Track.State,time,r7,f.Track.Speed,r9,f.Track.Rate,w64 (f.Track.Radius + r10.1),f.Track.Code,f.Track.Hits,f.Track.Misses⟩,w64 (f.Slack + (w64 ((w64 (16 * accel)) * (w64 (time - f.Track.Time))))),f.Last⟩:Za)
            cond (r11 != 0) (
              ((⟨⟨0,0,0,⟨0,0⟩,⟨0,0⟩,0,0,0,0,0,0⟩,0,⟨0,⟨0,0⟩,0,0,0⟩⟩:Za),8)) (
              ((⟨⟨f.Track.ID,f.Track.State,time,r7,f.Track.Speed,r9,f.Track.Rate,w64 (f.Track.Radius + r10.1),f.Track.Code,f.Track.Hits,f.Track.Misses⟩,w64 (f.Slack + (w64 ((w64 (16 * accel)) * (w64 (time - f.Track.Time))))),f.Last⟩:Za),0)))))))
set_option maxHeartbeats 4000000 in
set_option maxRecDepth 100000 in
theorem JK (f:Za) (time:Int) (accel:Int) (w:World):Calls Tryz.prog 45 #[Za.v f,.int .i64 time,.int .i64 accel] w (Ret w (.tuple #[Za.v ((Zq f time accel).1),.int .i64 ((Zq f time accel).2)])):=by
  refine Zk (vs:=[Za.v f,.i time,.i accel]) (w:=w) Tryz.func45 rfl Tryz.ntmps45 rfl (TC.sr (TL.nw 3 (fun b1=>.p0 b1) (fun b1=>Bk b1 (Za.c f) 44) (fun b1=>{}) (fun b1=>TL.nw 6 (fun b2=>.p0 b2) (fun b2=>Bk b2 (Za.c Za.zero) 44) (fun b2=>{}) (fun b2=>TL.r 3 [] [(7,.i 0)] {} (TL.nr (TL.r 1 [] [(14,Za.v Za.zero)] {} (TL.nw 8 (fun b3=>.p0 b3) (fun b3=>Bk b3 (Za.c Za.zero) 44) (fun b3=>{}) (fun b3=>TL.s 0 (Bk b3 (Za.c Za.zero) 44) (fun _=>{}) (TL.ns (TC.sr (TL.r 1 [2] [(15,Za.v f)] {} (TL.c 16 (Z1 f) (fun r1=>.i r1) (fun w _=>XA f w) {} (fun r1 hr1=>TL.r 3 [] [(9,.i r1)] {} (TL.nr (TL.r 2 [] [(18,.b (r1 != 0))] {} (TL.next rfl (TC.cond (r1 != 0) rfl Kr (fun h1=>?_) (fun h1=>?_))))))))))))))))))
  · exact TC.sr (TL.r 2 [0] [(19,Za.v (⟨⟨0,0,0,⟨0,0⟩,⟨0,0⟩,0,0,0,0,0,0⟩,0,⟨0,⟨0,0⟩,0,0,0⟩⟩:Za)),(20,.i r1)] {} (TL.s 1 (Bk b2 (Za.c Za.zero) 44) (fun _=>{}) (TL.r 4 [] [(7,.i r1)] {} (TL.next rfl (TC.ret (TE.rt (TE.ret [1] (.tuple #[Za.v (⟨⟨0,0,0,⟨0,0⟩,⟨0,0⟩,0,0,0,0,0,0⟩,0,⟨0,⟨0,0⟩,0,0,0⟩⟩:Za),.i r1]) {} (by unfold Zq;refine eS (a:=((⟨⟨0,0,0,⟨0,0⟩,⟨0,0⟩,0,0,0,0,0,0⟩,0,⟨0,⟨0,0⟩,0,0,0⟩⟩:Za),r1)) (fun (z:Za × Int)=>(.tuple #[Za.v z.1,.i z.2]:Value)) ?_;subst hr1;exact Zi h1 (rfl)))))))))
  · refine TC.snr (TL.r 6 [2] [(10,.i (w64 (time - f.Track.Time)))] {} (TL.ns (TC.block (TC.sr (TL.r 1 [] [(27,.i time)] {} (TL.c 28 (ZX time 0 200000) (fun r2=>.b r2) (fun w _=>XN time 0 200000 w) {} (fun r2 hr2=>TL.r 3 [] [(29,.b r2)] {} (TL.split 29 r2 Kr (fun h2=>?_) (fun h2=>?_)))))))))
    · refine TL.r 7 [] [(26,.b true)] {} (TL.next rfl (TC.condT rfl Kr (TC.sr (TL.r 1 [0] [(33,Za.v (⟨⟨0,0,0,⟨0,0⟩,⟨0,0⟩,0,0,0,0,0,0⟩,0,⟨0,⟨0,0⟩,0,0,0⟩⟩:Za))] {} (TL.s 1 (Bk b2 (Za.c Za.zero) 44) (fun _=>{}) (TL.r 3 [] [(7,.i 4)] {} (TL.next rfl (TC.ret (TE.rb (TE.rt ?_))))))))))
      exact TE.ret [1] (.tuple #[Za.v (⟨⟨0,0,0,⟨0,0⟩,⟨0,0⟩,0,0,0,0,0,0⟩,0,⟨0,⟨0,0⟩,0,0,0⟩⟩:Za),.i 4]) {} (by unfold Zq;refine eS (a:=((⟨⟨0,0,0,⟨0,0⟩,⟨0,0⟩,0,0,0,0,0,0⟩,0,⟨0,⟨0,0⟩,0,0,0⟩⟩:Za),4)) (fun (z:Za × Int)=>(.tuple #[Za.v z.1,.i z.2]:Value)) ?_;subst hr1 hr2;exact Zb h1 (Zi h2 (rfl)))
    · refine TL.r 4 [] [(30,.i accel)] {} (TL.c 31 (ZX accel 0 20) (fun r3=>.b r3) (fun w _=>XN accel 0 20 w) {} (fun r3 hr3=>TL.r 7 [] [(26,.b r3)] {} (TL.next rfl (TC.cond r3 rfl Kr (fun h3=>?_) (fun h3=>?_)))))
      · refine TC.sr (TL.r 1 [0] [(33,Za.v (⟨⟨0,0,0,⟨0,0⟩,⟨0,0⟩,0,0,0,0,0,0⟩,0,⟨0,⟨0,0⟩,0,0,0⟩⟩:Za))] {} (TL.s 1 (Bk b2 (Za.c Za.zero) 44) (fun _=>{}) (TL.r 3 [] [(7,.i 4)] {} (TL.next rfl (TC.ret (TE.rb (TE.rt ?_)))))))
        exact TE.ret [1] (.tuple #[Za.v (⟨⟨0,0,0,⟨0,0⟩,⟨0,0⟩,0,0,0,0,0,0⟩,0,⟨0,⟨0,0⟩,0,0,0⟩⟩:Za),.i 4]) {} (by unfold Zq;refine eS (a:=((⟨⟨0,0,0,⟨0,0⟩,⟨0,0⟩,0,0,0,0,0,0⟩,0,⟨0,⟨0,0⟩,0,0,0⟩⟩:Za),4)) (fun (z:Za × Int)=>(.tuple #[Za.v z.1,.i z.2]:Value)) ?_;subst hr1 hr2 hr3;exact Zb h1 (Zb h2 (Zi h3 (rfl))))
      · refine TC.sr (TL.r 1 [] [(35,.i (w64 (time - f.Track.Time)))] {} (TL.c 36 (ZX (w64 (time - f.Track.Time)) 0 600) (fun r4=>.b r4) (fun w _=>XN (w64 (time - f.Track.Time)) 0 600 w) {} (fun r4 hr4=>TL.r 3 [] [(34,.b r4)] {} (TL.next rfl (TC.cond r4 rfl Kr (fun h4=>?_) (fun h4=>?_))))))
        · refine TC.sr (TL.r 1 [0] [(37,Za.v (⟨⟨0,0,0,⟨0,0⟩,⟨0,0⟩,0,0,0,0,0,0⟩,0,⟨0,⟨0,0⟩,0,0,0⟩⟩:Za))] {} (TL.s 1 (Bk b2 (Za.c Za.zero) 44) (fun _=>{}) (TL.r 3 [] [(7,.i 12)] {} (TL.next rfl (TC.ret (TE.rb (TE.rt ?_)))))))
          exact TE.ret [1] (.tuple #[Za.v (⟨⟨0,0,0,⟨0,0⟩,⟨0,0⟩,0,0,0,0,0,0⟩,0,⟨0,⟨0,0⟩,0,0,0⟩⟩:Za),.i 12]) {} (by unfold Zq;refine eS (a:=((⟨⟨0,0,0,⟨0,0⟩,⟨0,0⟩,0,0,0,0,0,0⟩,0,⟨0,⟨0,0⟩,0,0,0⟩⟩:Za),12)) (fun (z:Za × Int)=>(.tuple #[Za.v z.1,.i z.2]:Value)) ?_;subst hr1 hr2 hr3 hr4;exact Zb h1 (Zb h2 (Zb h3 (Zi h4 (rfl)))))
        · refine TC.sr (TL.r 3 [] [(38,.b ((w64 (time - f.Track.Time)) == 0))] {} (TL.next rfl (TC.cond ((w64 (time - f.Track.Time)) == 0) rfl Kr (fun h5=>?_) (fun h5=>?_))))
          · refine TC.sr (TL.r 1 [2] [(41,Za.v f)] {} (TL.s 1 (Bk b2 (Za.c f) 44) (fun _=>{}) (TL.r 3 [] [(7,.i 0)] {} (TL.next rfl (TC.ret (TE.rb (TE.rt ?_)))))))
            exact TE.ret [1] (.tuple #[Za.v f,.i 0]) {} (by unfold Zq;refine eS (a:=(f,0)) (fun (z:Za × Int)=>(.tuple #[Za.v z.1,.i z.2]:Value)) ?_;subst hr1 hr2 hr3 hr4;exact Zb h1 (Zb h2 (Zb h3 (Zb h4 (Zi h5 (rfl))))))
          · refine TC.skip (TE.nb (TE.nr (TL.r 2 [] [(11,.p0 b1)] {} (TL.ns (TC.drawTail 25 Kr Kr (TQ.r 12 [2,2] [(43,.p0 b1),(47,P.v f.Track.At),(54,.i (w64 (f.Track.Speed.X * (w64 (time - f.Track.Time)))))] {} (TQ.c 55 (ZT (w64 (f.Track.Speed.X * (w64 (time - f.Track.Time)))) 16) (fun r5=>.i r5) (fun w _=>Q8 (w64 (f.Track.Speed.X * (w64 (time - f.Track.Time)))) 16 w) rfl {} (fun r5 hr5=>TQ.r 20 [2] [(62,.i (w64 (f.Track.Speed.Y * (w64 (time - f.Track.Time)))))] {} (TQ.c 63 (ZT (w64 (f.Track.Speed.Y * (w64 (time - f.Track.Time)))) 16) (fun r6=>.i r6) (fun w _=>Q8 (w64 (f.Track.Speed.Y * (w64 (time - f.Track.Time)))) 16 w) rfl {} (fun r6 hr6=>TQ.r 22 [] [(64,P.v (⟨r5,r6⟩:P))] {} (TQ.c 65 (Qp f.Track.At (⟨r5,r6⟩:P)) (fun r7=>P.v r7) (fun w _=>Wa f.Track.At (⟨r5,r6⟩:P) w) rfl {} (fun r7 hr7=>TQ.r 25 [] [(67,.pt b1 3)] {} (TQ.tail rfl (TL.s 2 (Bk b1 (Za.c (⟨⟨f.Track.ID,f.Track.State,f.Track.Time,r7,f.Track.Speed,f.Track.Height,f.Track.Rate,f.Track.Radius,f.Track.Code,f.Track.Hits,f.Track.Misses⟩,f.Slack,f.Last⟩:Za)) 44) (fun _=>{}) (TL.ns (TC.drawTail 16 Kr Kr (TQ.r 11 [2,2] [(68,.p0 b1),(72,.i f.Track.Height),(78,.i (w64 (f.Track.Rate * (w64 (time - f.Track.Time)))))] {} (TQ.c 79 (ZT (w64 (f.Track.Rate * (w64 (time - f.Track.Time)))) 16) (fun r8=>.i r8) (fun w _=>Q8 (w64 (f.Track.Rate * (w64 (time - f.Track.Time)))) 16 w) rfl {} (fun r8 hr8=>TQ.r 13 [] [(80,.i (w64 (f.Track.Height + r8)))] {} (TQ.c 81 (Xn (w64 (f.Track.Height + r8)) 0 60000) (fun r9=>.i r9) (fun w _=>U2 (w64 (f.Track.Height + r8)) 0 60000 w) rfl {} (fun r9 hr9=>TQ.r 16 [] [(83,.pt b1 7)] {} (TQ.tail rfl (TL.s 2 (Bk b1 (Za.c (⟨⟨f.Track.ID,f.Track.State,f.Track.Time,r7,f.Track.Speed,r9,f.Track.Rate,f.Track.Radius,f.Track.Code,f.Track.Hits,f.Track.Misses⟩,f.Slack,f.Last⟩:Za)) 44) (fun _=>{}) (TL.nr (TL.r 4 [2] [(86,.i f.Slack),(87,.i accel),(88,.i (w64 (time - f.Track.Time)))] {} (TL.c 89 (Qr f.Slack accel (w64 (time - f.Track.Time))) (fun r10=>.tuple #[.i r10.1,.i r10.2]) (fun w _=>BN f.Slack accel (w64 (time - f.Track.Time)) w) {} (fun r10 hr10=>TL.r 10 [] [(12,.i r10.1)] {} (TL.nr (TL.r 8 [2] [(97,.i (w64 (f.Track.Radius + r10.1))),(99,.pt b1 9)] {} (TL.s 2 (Bk b1 (Za.c (⟨⟨f.Track.ID,f.Track.State,f.Track.Time,r7,f.Track.Speed,r9,f.Track.Rate,w64 (f.Track.Radius + r10.1),f.Track.Code,f.Track.Hits,f.Track.Misses⟩,f.Slack,f.Last⟩:Za)) 44) (fun _=>{}) (TL.nr (TL.r 4 [] [(101,.i time),(103,.pt b1 2)] {} (TL.s 2 (Bk b1 (Za.c (⟨⟨f.Track.ID,f.Track.State,time,r7,f.Track.Speed,r9,f.Track.Rate,w64 (f.Track.Radius + r10.1),f.Track.Code,f.Track.Hits,f.Track.Misses⟩,f.Slack,f.Last⟩:Za)) 44) (fun _=>{}) (TL.nr (TL.r 8 [2] [(110,.i (w64 (f.Slack + (w64 ((w64 (16 * accel)) * (w64 (time - f.Track.Time))))))),(111,.pt b1 13)] {} (TL.s 2 (Bk b1 (Za.c (⟨⟨f.Track.ID,f.Track.State,time,r7,f.Track.Speed,r9,f.Track.Rate,w64 (f.Track.Radius + r10.1),f.Track.Code,f.Track.Hits,f.Track.Misses⟩,w64 (f.Slack + (w64 ((w64 (16 * accel)) * (w64 (time - f.Track.Time))))),f.Last⟩:Za)) 44) (fun _=>{}) (TL.ns (TC.sr (TL.r 1 [2] [(112,Za.v (⟨⟨f.Track.ID,f.Track.State,time,r7,f.Track.Speed,r9,f.Track.Rate,w64 (f.Track.Radius + r10.1),f.Track.Code,f.Track.Hits,f.Track.Misses⟩,w64 (f.Slack + (w64 ((w64 (16 * accel)) * (w64 (time - f.Track.Time))))),f.Last⟩:Za))] {} (TL.c 113 (Z1 (⟨⟨f.Track.ID,f.Track.State,time,r7,f.Track.Speed,r9,f.Track.Rate,w64 (f.Track.Radius + r10.1),f.Track.Code,f.Track.Hits,f.Track.Misses⟩,w64 (f.Slack + (w64 ((w64 (16 * accel)) * (w64 (time - f.Track.Time))))),f.Last⟩:Za)) (fun r11=>.i r11) (fun w _=>XA (⟨⟨f.Track.ID,f.Track.State,time,r7,f.Track.Speed,r9,f.Track.Rate,w64 (f.Track.Radius + r10.1),f.Track.Code,f.Track.Hits,f.Track.Misses⟩,w64 (f.Slack + (w64 ((w64 (16 * accel)) * (w64 (time - f.Track.Time))))),f.Last⟩:Za) w) {} (fun r11 hr11=>TL.r 3 [] [(114,.b (r11 != 0))] {} (TL.next rfl (TC.cond (r11 != 0) rfl Kr (fun h6=>?_) (fun h6=>?_))))))))))))))))))))))))))))))))))))))))))))
            · exact TC.sr (TL.r 1 [0] [(115,Za.v (⟨⟨0,0,0,⟨0,0⟩,⟨0,0⟩,0,0,0,0,0,0⟩,0,⟨0,⟨0,0⟩,0,0,0⟩⟩:Za))] {} (TL.s 1 (Bk b2 (Za.c Za.zero) 44) (fun _=>{}) (TL.r 3 [] [(7,.i 8)] {} (TL.next rfl (TC.ret (TE.rt (TE.ret [1] (.tuple #[Za.v (⟨⟨0,0,0,⟨0,0⟩,⟨0,0⟩,0,0,0,0,0,0⟩,0,⟨0,⟨0,0⟩,0,0,0⟩⟩:Za),.i 8]) {} (by unfold Zq;refine eS (a:=((⟨⟨0,0,0,⟨0,0⟩,⟨0,0⟩,0,0,0,0,0,0⟩,0,⟨0,⟨0,0⟩,0,0,0⟩⟩:Za),8)) (fun (z:Za × Int)=>(.tuple #[Za.v z.1,.i z.2]:Value)) ?_;subst hr1 hr2 hr3 hr4 hr5 hr6 hr7 hr8 hr9 hr10 hr11;exact Zb h1 (Zb h2 (Zb h3 (Zb h4 (Zb h5 (Zi h6 (rfl))))))))))))))
            · exact TC.snr (TL.r 1 [2] [(116,Za.v (⟨⟨f.Track.ID,f.Track.State,time,r7,f.Track.Speed,r9,f.Track.Rate,w64 (f.Track.Radius + r10.1),f.Track.Code,f.Track.Hits,f.Track.Misses⟩,w64 (f.Slack + (w64 ((w64 (16 * accel)) * (w64 (time - f.Track.Time))))),f.Last⟩:Za))] {} (TL.s 1 (Bk b2 (Za.c (⟨⟨f.Track.ID,f.Track.State,time,r7,f.Track.Speed,r9,f.Track.Rate,w64 (f.Track.Radius + r10.1),f.Track.Code,f.Track.Hits,f.Track.Misses⟩,w64 (f.Slack + (w64 ((w64 (16 * accel)) * (w64 (time - f.Track.Time))))),f.Last⟩:Za)) 44) (fun _=>{}) (TL.r 3 [] [(7,.i 0)] {} (TL.next rfl (TC.ret (TE.ret [1] (.tuple #[Za.v (⟨⟨f.Track.ID,f.Track.State,time,r7,f.Track.Speed,r9,f.Track.Rate,w64 (f.Track.Radius + r10.1),f.Track.Code,f.Track.Hits,f.Track.Misses⟩,w64 (f.Slack + (w64 ((w64 (16 * accel)) * (w64 (time - f.Track.Time))))),f.Last⟩:Za),.i 0]) {} (by unfold Zq;refine eS (a:=((⟨⟨f.Track.ID,f.Track.State,time,r7,f.Track.Speed,r9,f.Track.Rate,w64 (f.Track.Radius + r10.1),f.Track.Code,f.Track.Hits,f.Track.Misses⟩,w64 (f.Slack + (w64 ((w64 (16 * accel)) * (w64 (time - f.Track.Time))))),f.Last⟩:Za),0)) (fun (z:Za × Int)=>(.tuple #[Za.v z.1,.i z.2]:Value)) ?_;subst hr1 hr2 hr3 hr4 hr5 hr6 hr7 hr8 hr9 hr10 hr11;exact Zb h1 (Zb h2 (Zb h3 (Zb h4 (Zb h5 (Zb h6 (rfl)))))))))))))
def Xk (a:Int) (b_:Int) (g_:Int):Int :=
  let r1:=ZT (w64 ((w64 (b_ - a)) * g_)) 256
  w64 (a + r1)
set_option maxRecDepth 100000 in
theorem K1 (a:Int) (b_:Int) (g_:Int) (w:World):Calls Tryz.prog 111 #[.int .i64 a,.int .i64 b_,.int .i64 g_] w (Ret w (.int .i64 (Xk a b_ g_))):=by
  exact Zk (vs:=[.i a,.i b_,.i g_]) (w:=w) Tryz.func111 rfl Tryz.ntmps111 rfl (TC.sr (TL.r 1 [] [(6,.i 0)] {} (TL.nr (TL.r 6 [] [(7,.i a),(12,.i (w64 ((w64 (b_ - a)) * g_)))] {} (TL.c 13 (ZT (w64 ((w64 (b_ - a)) * g_)) 256) (fun r1=>.i r1) (fun w _=>Q8 (w64 ((w64 (b_ - a)) * g_)) 256 w) {} (fun r1 hr1=>TL.r 9 [] [(6,.i (w64 (a + r1)))] {} (TL.next rfl (TC.ret (TE.ret [] (.i (w64 (a + r1))) {} (by unfold Xk;refine eS (fun z=>(.i z:Value)) ?_;subst hr1;exact rfl))))))))))
def ZK (f:Za) (s:Zf) (accel:Int) (place:Int) (speed:Int):Za × Int :=
  let r1:=Z1 f
  cond (r1 != 0) (
    ((⟨⟨0,0,0,⟨0,0⟩,⟨0,0⟩,0,0,0,0,0,0⟩,0,⟨0,⟨0,0⟩,0,0,0⟩⟩:Za),r1)) (
    let r2:=Zy s
    cond (r2 != 0) (
      ((⟨⟨0,0,0,⟨0,0⟩,⟨0,0⟩,0,0,0,0,0,0⟩,0,⟨0,⟨0,0⟩,0,0,0⟩⟩:Za),r2)) (
      let r3:=ZX place 0 256
      cond r3 (
        ((⟨⟨0,0,0,⟨0,0⟩,⟨0,0⟩,0,0,0,0,0,0⟩,0,⟨0,⟨0,0⟩,0,0,0⟩⟩:Za),4)) (
        let r4:=ZX speed 0 256
        cond r4 (
          ((⟨⟨0,0,0,⟨0,0⟩,⟨0,0⟩,0,0,0,0,0,0⟩,0,⟨0,⟨0,0⟩,0,0,0⟩⟩:Za),4)) (
          cond (decide ((w64 (s.Time - f.Last.Time)) ≤ 0)) (
            ((⟨⟨0,0,0,⟨0,0⟩,⟨0,0⟩,0,0,0,0,0,0⟩,0,⟨0,⟨0,0⟩,0,0,0⟩⟩:Za),12)) (
            let r5:=Zq f s.Time accel
            cond (r5.2 != 0) (
              ((⟨⟨0,0,0,⟨0,0⟩,⟨0,0⟩,0,0,0,0,0,0⟩,0,⟨0,⟨0,0⟩,0,0,0⟩⟩:Za),r5.2)) (
              let r6:=ZQ r5.1.Track.At s.At (w64 (r5.1.Track.Radius + s.Error))
              cond (!r6) (
                ((⟨⟨0,0,0,⟨0,0⟩,⟨0,0⟩,0,0,0,0,0,0⟩,0,⟨0,⟨0,0⟩,0,0,0⟩⟩:Za),8)) (
                let r7:=Xk r5.1.Track.At.X s.At.X place
                let r8:=Xk r5.1.Track.At.Y s.At.Y place
                let r9:=XV (w64 ((w64 ((w64 (256 - place)) * r5.1.Track.Radius)) + (w64 (place * s.Error)))) 256
                let r10:=ZT (w64 (16 * (w64 (s.At.X - f.Last.At.X)))) (w64 (s.Time - f.Last.Time))
                let r11:=ZT (w64 (16 * (w64 (s.At.Y - f.Last.At.Y)))) (w64 (s.Time - f.Last.Time))
                let r12:=Xk r5.1.Track.Speed.X r10 speed
                let r13:=Xk r5.1.Track.Speed.Y r11 speed
                let r14:=XV (w64 (16 * (w64 (s.Error + f.Last.Error)))) (w64 (s.Time - f.Last.Time))
                let r15:=XV (w64 ((w64 ((w64 (256 - speed)) * r5.1.Slack)) + (w64 (speed * (w64 ((w64 (r14 + (w64 ((w64 (16 * accel)) * (w64 (s.Time - f.Last.Time)))))) + 2)))))) 256
                let r16:=ZT (w64 (16 * (w64 (s.Height - f.Last.Height)))) (w64 (s.Time - f.Last.Time))
                let r17:=Xn r16 (-3200) 3200
                cond (s.Code != (-1)) (
                  let r18:=Z1 (⟨⟨r5.1.Track.ID,r5.1.Track.State,r5.1.Track.Time,⟨r7,r8⟩,⟨r12,r13⟩,s.Height,r17,w64 (r9 + 2),s.Code,w64 (r5.1.Track.Hits + 1),0⟩,w64 (r15 + 2),s⟩:Za)
                  cond (r18 != 0) (
                    ((⟨⟨0,0,0,⟨0,0⟩,⟨0,0⟩,0,0,0,0,0,0⟩,0,⟨0,⟨0,0⟩,0,0,0⟩⟩:Za),8)) (
                    ((⟨⟨r5.1.Track.ID,r5.1.Track.State,r5.1.Track.Time,⟨r7,r8⟩,⟨r12,r13⟩,s.Height,r17,w64 (r9 + 2),s.Code,w64 (r5.1.Track.Hits + 1),0⟩,w64 (r15 + 2),s⟩:Za),0))) (
                  let r19:=Z1 (⟨⟨r5.1.Track.ID,r5.1.Track.State,r5.1.Track.Time,⟨r7,r8⟩,⟨r12,r13⟩,s.Height,r17,w64 (r9 + 2),r5.1.Track.Code,w64 (r5.1.Track.Hits + 1),0⟩,w64 (r15 + 2),s⟩:Za)
                  cond (r19 != 0) (
                    ((⟨⟨0,0,0,⟨0,0⟩,⟨0,0⟩,0,0,0,0,0,0⟩,0,⟨0,⟨0,0⟩,0,0,0⟩⟩:Za),8)) (
                    ((⟨⟨r5.1.Track.ID,r5.1.Track.State,r5.1.Track.Time,⟨r7,r8⟩,⟨r12,r13⟩,s.Height,r17,w64 (r9 + 2),r5.1.Track.Code,w64 (r5.1.Track.Hits + 1),0⟩,w64 (r15 + 2),s⟩:Za),0))))))))))
set_option maxHeartbeats 4000000 in
set_option maxRecDepth 100000 in
theorem Wn (f:Za) (s:Zf) (accel:Int) (place:Int) (speed:Int) (w:World):Calls Tryz.prog 53 #[Za.v f,Zf.v s,.int .i64 accel,.int .i64 place,.int .i64 speed] w (Ret w (.tuple #[Za.v ((ZK f s accel place speed).1),.int .i64 ((ZK f s accel place speed).2)])):=by
  refine Zk (vs:=[Za.v f,Zf.v s,.i accel,.i place,.i speed]) (w:=w) Tryz.func53 rfl Tryz.ntmps53 rfl (TC.sr (TL.nw 5 (fun b1=>.p0 b1) (fun b1=>Bk b1 (Za.c f) 44) (fun b1=>{}) (fun b1=>TL.nw 6 (fun b2=>.p0 b2) (fun b2=>Bk b2 (Zf.c s) 42) (fun b2=>{}) (fun b2=>TL.nw 10 (fun b3=>.p0 b3) (fun b3=>Bk b3 (Za.c Za.zero) 44) (fun b3=>{}) (fun b3=>TL.r 4 [] [(11,.i 0)] {} (TL.nr (TL.r 1 [] [(22,Za.v Za.zero)] {} (TL.nw 12 (fun b4=>.p0 b4) (fun b4=>Bk b4 (Za.c Za.zero) 44) (fun b4=>{}) (fun b4=>TL.s 0 (Bk b4 (Za.c Za.zero) 44) (fun _=>{}) (TL.ns (TC.sr (TL.r 1 [3] [(23,Za.v f)] {} (TL.c 24 (Z1 f) (fun r1=>.i r1) (fun w _=>XA f w) {} (fun r1 hr1=>TL.r 3 [] [(13,.i r1)] {} (TL.nr (TL.r 2 [] [(26,.b (r1 != 0))] {} (TL.next rfl (TC.cond (r1 != 0) rfl Kr (fun h1=>?_) (fun h1=>?_)))))))))))))))))))
  · exact TC.sr (TL.r 2 [0] [(27,Za.v (⟨⟨0,0,0,⟨0,0⟩,⟨0,0⟩,0,0,0,0,0,0⟩,0,⟨0,⟨0,0⟩,0,0,0⟩⟩:Za)),(28,.i r1)] {} (TL.s 1 (Bk b3 (Za.c Za.zero) 44) (fun _=>{}) (TL.r 4 [] [(11,.i r1)] {} (TL.next rfl (TC.ret (TE.rt (TE.ret [1] (.tuple #[Za.v (⟨⟨0,0,0,⟨0,0⟩,⟨0,0⟩,0,0,0,0,0,0⟩,0,⟨0,⟨0,0⟩,0,0,0⟩⟩:Za),.i r1]) {} (by unfold ZK;refine eS (a:=((⟨⟨0,0,0,⟨0,0⟩,⟨0,0⟩,0,0,0,0,0,0⟩,0,⟨0,⟨0,0⟩,0,0,0⟩⟩:Za),r1)) (fun (z:Za × Int)=>(.tuple #[Za.v z.1,.i z.2]:Value)) ?_;subst hr1;exact Zi h1 (rfl)))))))))
  · refine TC.sn (TC.seq (TC.sr (TL.r 1 [2] [(29,Zf.v s)] {} (TL.c 30 (Zy s) (fun r2=>.i r2) (fun w _=>Xl s w) {} (fun r2 hr2=>TL.r 3 [] [(14,.i r2)] {} (TL.nr (TL.r 2 [] [(32,.b (r2 != 0))] {} (TL.next rfl (TC.cond (r2 != 0) rfl Kr (fun h2=>?_) (fun h2=>?_))))))))))
    · exact TC.sr (TL.r 2 [0] [(33,Za.v (⟨⟨0,0,0,⟨0,0⟩,⟨0,0⟩,0,0,0,0,0,0⟩,0,⟨0,⟨0,0⟩,0,0,0⟩⟩:Za)),(34,.i r2)] {} (TL.s 1 (Bk b3 (Za.c Za.zero) 44) (fun _=>{}) (TL.r 4 [] [(11,.i r2)] {} (TL.next rfl (TC.ret (TE.rt (TE.ret [1] (.tuple #[Za.v (⟨⟨0,0,0,⟨0,0⟩,⟨0,0⟩,0,0,0,0,0,0⟩,0,⟨0,⟨0,0⟩,0,0,0⟩⟩:Za),.i r2]) {} (by unfold ZK;refine eS (a:=((⟨⟨0,0,0,⟨0,0⟩,⟨0,0⟩,0,0,0,0,0,0⟩,0,⟨0,⟨0,0⟩,0,0,0⟩⟩:Za),r2)) (fun (z:Za × Int)=>(.tuple #[Za.v z.1,.i z.2]:Value)) ?_;subst hr1 hr2;exact Zb h1 (Zi h2 (rfl))))))))))
    · refine TC.snr (TL.r 7 [2,3] [(15,.i (w64 (s.Time - f.Last.Time)))] {} (TL.ns (TC.block (TC.sr (TL.r 1 [] [(42,.i place)] {} (TL.c 43 (ZX place 0 256) (fun r3=>.b r3) (fun w _=>XN place 0 256 w) {} (fun r3 hr3=>TL.r 3 [] [(44,.b r3)] {} (TL.split 44 r3 Kr (fun h3=>?_) (fun h3=>?_)))))))))
      · refine TL.r 7 [] [(41,.b true)] {} (TL.next rfl (TC.condT rfl Kr (TC.sr (TL.r 1 [0] [(48,Za.v (⟨⟨0,0,0,⟨0,0⟩,⟨0,0⟩,0,0,0,0,0,0⟩,0,⟨0,⟨0,0⟩,0,0,0⟩⟩:Za))] {} (TL.s 1 (Bk b3 (Za.c Za.zero) 44) (fun _=>{}) (TL.r 3 [] [(11,.i 4)] {} (TL.next rfl (TC.ret (TE.rb (TE.rt ?_))))))))))
        exact TE.ret [1] (.tuple #[Za.v (⟨⟨0,0,0,⟨0,0⟩,⟨0,0⟩,0,0,0,0,0,0⟩,0,⟨0,⟨0,0⟩,0,0,0⟩⟩:Za),.i 4]) {} (by unfold ZK;refine eS (a:=((⟨⟨0,0,0,⟨0,0⟩,⟨0,0⟩,0,0,0,0,0,0⟩,0,⟨0,⟨0,0⟩,0,0,0⟩⟩:Za),4)) (fun (z:Za × Int)=>(.tuple #[Za.v z.1,.i z.2]:Value)) ?_;subst hr1 hr2 hr3;exact Zb h1 (Zb h2 (Zi h3 (rfl))))
      · refine TL.r 4 [] [(45,.i speed)] {} (TL.c 46 (ZX speed 0 256) (fun r4=>.b r4) (fun w _=>XN speed 0 256 w) {} (fun r4 hr4=>TL.r 7 [] [(41,.b r4)] {} (TL.next rfl (TC.cond r4 rfl Kr (fun h4=>?_) (fun h4=>?_)))))
        · refine TC.sr (TL.r 1 [0] [(48,Za.v (⟨⟨0,0,0,⟨0,0⟩,⟨0,0⟩,0,0,0,0,0,0⟩,0,⟨0,⟨0,0⟩,0,0,0⟩⟩:Za))] {} (TL.s 1 (Bk b3 (Za.c Za.zero) 44) (fun _=>{}) (TL.r 3 [] [(11,.i 4)] {} (TL.next rfl (TC.ret (TE.rb (TE.rt ?_)))))))
          exact TE.ret [1] (.tuple #[Za.v (⟨⟨0,0,0,⟨0,0⟩,⟨0,0⟩,0,0,0,0,0,0⟩,0,⟨0,⟨0,0⟩,0,0,0⟩⟩:Za),.i 4]) {} (by unfold ZK;refine eS (a:=((⟨⟨0,0,0,⟨0,0⟩,⟨0,0⟩,0,0,0,0,0,0⟩,0,⟨0,⟨0,0⟩,0,0,0⟩⟩:Za),4)) (fun (z:Za × Int)=>(.tuple #[Za.v z.1,.i z.2]:Value)) ?_;subst hr1 hr2 hr3 hr4;exact Zb h1 (Zb h2 (Zb h3 (Zi h4 (rfl)))))
        · refine TC.sr (TL.r 3 [] [(49,.b (decide ((w64 (s.Time - f.Last.Time)) ≤ 0)))] {} (TL.next rfl (TC.cond (decide ((w64 (s.Time - f.Last.Time)) ≤ 0)) rfl Kr (fun h5=>?_) (fun h5=>?_))))
          · refine TC.sr (TL.r 1 [0] [(52,Za.v (⟨⟨0,0,0,⟨0,0⟩,⟨0,0⟩,0,0,0,0,0,0⟩,0,⟨0,⟨0,0⟩,0,0,0⟩⟩:Za))] {} (TL.s 1 (Bk b3 (Za.c Za.zero) 44) (fun _=>{}) (TL.r 3 [] [(11,.i 12)] {} (TL.next rfl (TC.ret (TE.rb (TE.rt ?_)))))))
            exact TE.ret [1] (.tuple #[Za.v (⟨⟨0,0,0,⟨0,0⟩,⟨0,0⟩,0,0,0,0,0,0⟩,0,⟨0,⟨0,0⟩,0,0,0⟩⟩:Za),.i 12]) {} (by unfold ZK;refine eS (a:=((⟨⟨0,0,0,⟨0,0⟩,⟨0,0⟩,0,0,0,0,0,0⟩,0,⟨0,⟨0,0⟩,0,0,0⟩⟩:Za),12)) (fun (z:Za × Int)=>(.tuple #[Za.v z.1,.i z.2]:Value)) ?_;subst hr1 hr2 hr3 hr4;exact Zb h1 (Zb h2 (Zb h3 (Zb h4 (Zi h5 (rfl))))))
          · refine TC.skip (TE.nb (TE.nr (TL.r 4 [3,2] [(54,Za.v f),(56,.i s.Time),(57,.i accel)] {} (TL.c 58 (Zq f s.Time accel) (fun r5=>.tuple #[Za.v r5.1,.i r5.2]) (fun w _=>JK f s.Time accel w) {} (fun r5 hr5=>TL.r 8 [] [(59,Za.v r5.1),(60,.i r5.2)] {} (TL.nw 16 (fun b5=>.p0 b5) (fun b5=>Bk b5 (Za.c Za.zero) 44) (fun b5=>{}) (fun b5=>TL.s 0 (Bk b5 (Za.c r5.1) 44) (fun _=>{}) (TL.r 11 [] [(17,.i r5.2)] {} (TL.ns (TC.sr (TL.r 2 [] [(62,.b (r5.2 != 0))] {} (TL.next rfl (TC.cond (r5.2 != 0) rfl Kr (fun h6=>?_) (fun h6=>?_))))))))))))))
            · exact TC.sr (TL.r 2 [1] [(63,Za.v (⟨⟨0,0,0,⟨0,0⟩,⟨0,0⟩,0,0,0,0,0,0⟩,0,⟨0,⟨0,0⟩,0,0,0⟩⟩:Za)),(64,.i r5.2)] {} (TL.s 2 (Bk b3 (Za.c Za.zero) 44) (fun _=>{}) (TL.r 4 [] [(11,.i r5.2)] {} (TL.next rfl (TC.ret (TE.rt (TE.ret [2] (.tuple #[Za.v (⟨⟨0,0,0,⟨0,0⟩,⟨0,0⟩,0,0,0,0,0,0⟩,0,⟨0,⟨0,0⟩,0,0,0⟩⟩:Za),.i r5.2]) {} (by unfold ZK;refine eS (a:=((⟨⟨0,0,0,⟨0,0⟩,⟨0,0⟩,0,0,0,0,0,0⟩,0,⟨0,⟨0,0⟩,0,0,0⟩⟩:Za),r5.2)) (fun (z:Za × Int)=>(.tuple #[Za.v z.1,.i z.2]:Value)) ?_;subst hr1 hr2 hr3 hr4 hr5;exact Zb h1 (Zb h2 (Zb h3 (Zb h4 (Zb h5 (Zi h6 (rfl))))))))))))))
            · refine TC.sn (TC.seq (TC.sr (TL.r 11 [0,3,0,3] [(67,P.v r5.1.Track.At),(69,P.v s.At),(75,.i (w64 (r5.1.Track.Radius + s.Error)))] {} (TL.c 76 (ZQ r5.1.Track.At s.At (w64 (r5.1.Track.Radius + s.Error))) (fun r6=>.b r6) (fun w _=>QH r5.1.Track.At s.At (w64 (r5.1.Track.Radius + s.Error)) w) {} (fun r6 hr6=>TL.r 13 [] [(77,.b (!r6))] {} (TL.next rfl (TC.cond (!r6) rfl Kr (fun h7=>?_) (fun h7=>?_))))))))
              · exact TC.sr (TL.r 1 [1] [(78,Za.v (⟨⟨0,0,0,⟨0,0⟩,⟨0,0⟩,0,0,0,0,0,0⟩,0,⟨0,⟨0,0⟩,0,0,0⟩⟩:Za))] {} (TL.s 2 (Bk b3 (Za.c Za.zero) 44) (fun _=>{}) (TL.r 3 [] [(11,.i 8)] {} (TL.next rfl (TC.ret (TE.rt (TE.ret [2] (.tuple #[Za.v (⟨⟨0,0,0,⟨0,0⟩,⟨0,0⟩,0,0,0,0,0,0⟩,0,⟨0,⟨0,0⟩,0,0,0⟩⟩:Za),.i 8]) {} (by unfold ZK;refine eS (a:=((⟨⟨0,0,0,⟨0,0⟩,⟨0,0⟩,0,0,0,0,0,0⟩,0,⟨0,⟨0,0⟩,0,0,0⟩⟩:Za),8)) (fun (z:Za × Int)=>(.tuple #[Za.v z.1,.i z.2]:Value)) ?_;subst hr1 hr2 hr3 hr4 hr5 hr6;exact Zb h1 (Zb h2 (Zb h3 (Zb h4 (Zb h5 (Zb h6 (Zi h7 (rfl)))))))))))))))
              · refine TC.snr (TL.r 1 [0] [(79,Za.v r5.1)] {} (TL.nw 18 (fun b6=>.p0 b6) (fun b6=>Bk b6 (Za.c Za.zero) 44) (fun b6=>{}) (fun b6=>TL.s 0 (Bk b6 (Za.c r5.1) 44) (fun _=>{}) (TL.nr (TL.r 2 [] [(19,.p0 b6)] {} (TL.ns (TC.drawTail 22 Kr Kr (TQ.r 9 [1,4] [(81,.p0 b6),(85,.i r5.1.Track.At.X),(88,.i s.At.X),(89,.i place)] {} (TQ.c 90 (Xk r5.1.Track.At.X s.At.X place) (fun r7=>.i r7) (fun w _=>K1 r5.1.Track.At.X s.At.X place w) rfl {} (fun r7 hr7=>TQ.r 18 [1,4] [(94,.i r5.1.Track.At.Y),(97,.i s.At.Y),(98,.i place)] {} (TQ.c 99 (Xk r5.1.Track.At.Y s.At.Y place) (fun r8=>.i r8) (fun w _=>K1 r5.1.Track.At.Y s.At.Y place w) rfl {} (fun r8 hr8=>TQ.r 22 [] [(100,P.v (⟨r7,r8⟩:P)),(102,.pt b6 3)] {} (TQ.tail rfl (TL.s 0 (Bk b6 (Za.c (⟨⟨r5.1.Track.ID,r5.1.Track.State,r5.1.Track.Time,⟨r7,r8⟩,r5.1.Track.Speed,r5.1.Track.Height,r5.1.Track.Rate,r5.1.Track.Radius,r5.1.Track.Code,r5.1.Track.Hits,r5.1.Track.Misses⟩,r5.1.Slack,r5.1.Last⟩:Za)) 44) (fun _=>{}) (TL.nr (TL.r 12 [1,4] [(103,.p0 b6),(114,.i (w64 ((w64 ((w64 (256 - place)) * r5.1.Track.Radius)) + (w64 (place * s.Error)))))] {} (TL.c 115 (XV (w64 ((w64 ((w64 (256 - place)) * r5.1.Track.Radius)) + (w64 (place * s.Error)))) 256) (fun r9=>.i r9) (fun w _=>VR (w64 ((w64 ((w64 (256 - place)) * r5.1.Track.Radius)) + (w64 (place * s.Error)))) 256 w) {} (fun r9 hr9=>TL.r 16 [] [(116,.i (w64 (r9 + 2))),(118,.pt b6 9)] {} (TL.s 0 (Bk b6 (Za.c (⟨⟨r5.1.Track.ID,r5.1.Track.State,r5.1.Track.Time,⟨r7,r8⟩,r5.1.Track.Speed,r5.1.Track.Height,r5.1.Track.Rate,w64 (r9 + 2),r5.1.Track.Code,r5.1.Track.Hits,r5.1.Track.Misses⟩,r5.1.Slack,r5.1.Last⟩:Za)) 44) (fun _=>{}) (TL.ns ?_))))))))))))))))))))
                obtain ⟨r10,hr10⟩:∃ r,ZT (w64 (16 * (w64 (s.At.X - f.Last.At.X)))) (w64 (s.Time - f.Last.Time))=r:=⟨_,rfl⟩
                obtain ⟨r11,hr11⟩:∃ r,ZT (w64 (16 * (w64 (s.At.Y - f.Last.At.Y)))) (w64 (s.Time - f.Last.Time))=r:=⟨_,rfl⟩
                let Mr22_:Mem:=[Bk b6 (Za.c (⟨⟨r5.1.Track.ID,r5.1.Track.State,r5.1.Track.Time,⟨r7,r8⟩,r5.1.Track.Speed,r5.1.Track.Height,r5.1.Track.Rate,w64 (r9 + 2),r5.1.Track.Code,r5.1.Track.Hits,r5.1.Track.Misses⟩,r5.1.Slack,r5.1.Last⟩:Za)) 44,Bk b5 (Za.c r5.1) 44,Bk b4 (Za.c Za.zero) 44,Bk b3 (Za.c Za.zero) 44,Bk b2 (Zf.c s) 42,Bk b1 (Za.c f) 44]
                refine TC.plan (G:=Nat) (base:=[(2,.i accel),(4,.i speed),(5,.p0 b1),(6,.p0 b2),(10,.p0 b3),(12,.p0 b4),(15,.i (w64 (s.Time - f.Last.Time))),(16,.p0 b5),(18,.p0 b6),(19,.p0 b6)]) (vals:=fun γ=>[.pt b2 1,.pt b2 1,.i s.At.X,.pt b1 14,.pt b1 15,.pt b1 15,.i f.Last.At.X,.i (w64 (s.At.X - f.Last.At.X)),.i (w64 (16 * (w64 (s.At.X - f.Last.At.X)))),.i (w64 (s.Time - f.Last.Time)),.i r10,.pt b2 1,.pt b2 2,.i s.At.Y,.pt b1 14,.pt b1 15,.pt b1 16,.i f.Last.At.Y,.i (w64 (s.At.Y - f.Last.At.Y)),.i (w64 (16 * (w64 (s.At.Y - f.Last.At.Y)))),.i (w64 (s.Time - f.Last.Time)),.i r11,P.v (⟨r10,r11⟩:P),.p0 γ,undef]) (writes:=[23,24]) (mem:=fun bs γ=>match bs with | [x23_,x24_]=>(bif x24_ then [Bk γ (P.c (⟨r10,r11⟩:P)) 36] else bif x23_ then [Bk γ (P.c P.zero) 36] else []) ++ (Mr22_) | _=>[]) (0) (fun γ=>[(2,.i accel),(4,.i speed),(5,.p0 b1),(6,.p0 b2),(10,.p0 b3),(12,.p0 b4),(15,.i (w64 (s.Time - f.Last.Time))),(16,.p0 b5),(18,.p0 b6),(19,.p0 b6),(20,.p0 γ)]) Kr Kr Kr Kr Kr (fun γ=>Kr) (fun _ hM=>hM) (fun γ=>Kr) ?_ ?_
                · skip
                  exact Steps.run (i:=0) 10 [0,0,4,0,0,0,5,0,0,0] Mr22_ Kr Kr (fun S (γ:Nat) w hM=>by rw [mS2 rfl rfl] at hM;exact hM.sub (Zj (List.Sublist.refl _))) Kr (fun (γ:Nat)=>{}) (Steps.call (i:=10) 99 (fun (γ:Nat)=>#[.i (w64 (16 * (w64 (s.At.X - f.Last.At.X)))),.i (w64 (s.Time - f.Last.Time))]) (some 129) (fun (γ:Nat)=>.i r10) (fun (γ:Nat)=>[Bk b6 (Za.c (⟨⟨r5.1.Track.ID,r5.1.Track.State,r5.1.Track.Time,⟨r7,r8⟩,r5.1.Track.Speed,r5.1.Track.Height,r5.1.Track.Rate,w64 (r9 + 2),r5.1.Track.Code,r5.1.Track.Hits,r5.1.Track.Misses⟩,r5.1.Slack,r5.1.Last⟩:Za)) 44,Bk b5 (Za.c r5.1) 44,Bk b4 (Za.c Za.zero) 44,Bk b3 (Za.c Za.zero) 44,Bk b2 (Zf.c s) 42,Bk b1 (Za.c f) 44]) Kr (fun S (γ:Nat) w _ hM=>by rw [mS2 rfl rfl] at hM;exact hM.sub (Zj (List.Sublist.refl _))) (fun (γ:Nat) w _=>by have h:=Q8 (w64 (16 * (w64 (s.At.X - f.Last.At.X)))) (w64 (s.Time - f.Last.Time)) w;rw [hr10] at h;exact h) (fun (γ:Nat)=>Kr) (fun (γ:Nat)=>Kr) (Steps.run (i:=11) 21 [0,0,4,0,0,0,5,0,0,0] Mr22_ Kr Kr (fun S (γ:Nat) w hM=>by rw [mS2 rfl rfl] at hM;exact hM.sub (Zj (List.Sublist.refl _))) Kr (fun (γ:Nat)=>{}) (Steps.call (i:=21) 99 (fun (γ:Nat)=>#[.i (w64 (16 * (w64 (s.At.Y - f.Last.At.Y)))),.i (w64 (s.Time - f.Last.Time))]) (some 140) (fun (γ:Nat)=>.i r11) (fun (γ:Nat)=>[Bk b6 (Za.c (⟨⟨r5.1.Track.ID,r5.1.Track.State,r5.1.Track.Time,⟨r7,r8⟩,r5.1.Track.Speed,r5.1.Track.Height,r5.1.Track.Rate,w64 (r9 + 2),r5.1.Track.Code,r5.1.Track.Hits,r5.1.Track.Misses⟩,r5.1.Slack,r5.1.Last⟩:Za)) 44,Bk b5 (Za.c r5.1) 44,Bk b4 (Za.c Za.zero) 44,Bk b3 (Za.c Za.zero) 44,Bk b2 (Zf.c s) 42,Bk b1 (Za.c f) 44]) Kr (fun S (γ:Nat) w _ hM=>by rw [mS2 rfl rfl] at hM;exact hM.sub (Zj (List.Sublist.refl _))) (fun (γ:Nat) w _=>by have h:=Q8 (w64 (16 * (w64 (s.At.Y - f.Last.At.Y)))) (w64 (s.Time - f.Last.Time)) w;rw [hr11] at h;exact h) (fun (γ:Nat)=>Kr) (fun (γ:Nat)=>Kr) (Steps.run (i:=22) 23 [0] Mr22_ Kr Kr (fun S (γ:Nat) w hM=>by rw [mS2 rfl rfl] at hM;exact hM.sub (Zj (List.Sublist.refl _))) Kr (fun (γ:Nat)=>{}) (Steps.op (i:=23) (Γ:=Nat) (fun g (γ:Nat)=>g) (fun _=>[]) (fun b (γ:Nat)=>[Bk b (P.c P.zero) 36]) (fun S (γ:Nat)=>Mr22_) [23,24] (fun (γ:Nat)=>sV (Instr.alloc 36 true (.tuple #[]))) (some 20) (fun b (γ:Nat)=>.p0 b) (fun S (γ:Nat) hj hd hl=>by rw [mS2 hj (hl 24 Kr)];exact List.Perm.refl _) (fun S (γ:Nat) g hl=>by rw [mS2 (S:=upS S 23) (a0:=23) (a1:=24) rfl (hl 24 Kr)];exact (List.Perm.refl _).symm) (fun (γ:Nat) M' w hM=>Qx (v:=fun b=>.p0 b) (fun b M=>Kr) M' w hM) (fun (γ:Nat)=>Kr) (fun (γ:Nat) g=>Kr) Kr (fun (γ:Nat) g=>Kr) (Steps.put (i:=24) (fun (γ:Nat)=>[Bk γ (P.c P.zero) 36]) (fun (γ:Nat)=>[Bk γ (P.c (⟨r10,r11⟩:P)) 36]) (fun S (γ:Nat)=>Mr22_) (fun (γ:Nat)=>sU (Instr.storeAt 36 (.p0 γ) (P.v (⟨r10,r11⟩:P)))) none (fun S (γ:Nat) hj hd hl=>by rw [mS2 (hd 23 Kr) hj];exact List.Perm.refl _) (fun S (γ:Nat) _=>(List.Perm.refl _).symm) (fun (γ:Nat) M' w hM=>QP (fun b M=>Kr) (fun b M=>Kr) M' w hM) (fun (γ:Nat)=>Kr) (fun (γ:Nat)=>Kr) (Steps.done Kr)))))))
                · rintro b7
                  refine TE.conv [Bk b7 (P.c (⟨r10,r11⟩:P)) 36,Bk b6 (Za.c (⟨⟨r5.1.Track.ID,r5.1.Track.State,r5.1.Track.Time,⟨r7,r8⟩,r5.1.Track.Speed,r5.1.Track.Height,r5.1.Track.Rate,w64 (r9 + 2),r5.1.Track.Code,r5.1.Track.Hits,r5.1.Track.Misses⟩,r5.1.Slack,r5.1.Last⟩:Za)) 44,Bk b5 (Za.c r5.1) 44,Bk b4 (Za.c Za.zero) 44,Bk b3 (Za.c Za.zero) 44,Bk b2 (Zf.c s) 42,Bk b1 (Za.c f) 44] (fun _ hM=>hM) (TE.next (TC.seq (TC.drawTail 20 Kr Kr (TQ.r 8 [2,0] [(142,.p0 b6),(146,.i r5.1.Track.Speed.X),(148,.i r10),(149,.i speed)] {} (TQ.c 150 (Xk r5.1.Track.Speed.X r10 speed) (fun r12=>.i r12) (fun w _=>K1 r5.1.Track.Speed.X r10 speed w) rfl {} (fun r12 hr12=>TQ.r 16 [2,0] [(154,.i r5.1.Track.Speed.Y),(156,.i r11),(157,.i speed)] {} (TQ.c 158 (Xk r5.1.Track.Speed.Y r11 speed) (fun r13=>.i r13) (fun w _=>K1 r5.1.Track.Speed.Y r11 speed w) rfl {} (fun r13 hr13=>TQ.r 20 [] [(159,P.v (⟨r12,r13⟩:P)),(161,.pt b6 5)] {} (TQ.tail rfl (TL.s 1 (Bk b6 (Za.c (⟨⟨r5.1.Track.ID,r5.1.Track.State,r5.1.Track.Time,⟨r7,r8⟩,⟨r12,r13⟩,r5.1.Track.Height,r5.1.Track.Rate,w64 (r9 + 2),r5.1.Track.Code,r5.1.Track.Hits,r5.1.Track.Misses⟩,r5.1.Slack,r5.1.Last⟩:Za)) 44) (fun _=>{}) (TL.nr (TL.r 8 [5,6] [(168,.i (w64 (16 * (w64 (s.Error + f.Last.Error))))),(169,.i (w64 (s.Time - f.Last.Time)))] {} (TL.c 170 (XV (w64 (16 * (w64 (s.Error + f.Last.Error)))) (w64 (s.Time - f.Last.Time))) (fun r14=>.i r14) (fun w _=>VR (w64 (16 * (w64 (s.Error + f.Last.Error)))) (w64 (s.Time - f.Last.Time)) w) {} (fun r14 hr14=>TL.r 16 [] [(21,.i (w64 ((w64 (r14 + (w64 ((w64 (16 * accel)) * (w64 (s.Time - f.Last.Time)))))) + 2)))] {} (TL.nr (TL.r 9 [2] [(185,.i (w64 ((w64 ((w64 (256 - speed)) * r5.1.Slack)) + (w64 (speed * (w64 ((w64 (r14 + (w64 ((w64 (16 * accel)) * (w64 (s.Time - f.Last.Time)))))) + 2)))))))] {} (TL.c 186 (XV (w64 ((w64 ((w64 (256 - speed)) * r5.1.Slack)) + (w64 (speed * (w64 ((w64 (r14 + (w64 ((w64 (16 * accel)) * (w64 (s.Time - f.Last.Time)))))) + 2)))))) 256) (fun r15=>.i r15) (fun w _=>VR (w64 ((w64 ((w64 (256 - speed)) * r5.1.Slack)) + (w64 (speed * (w64 ((w64 (r14 + (w64 ((w64 (16 * accel)) * (w64 (s.Time - f.Last.Time)))))) + 2)))))) 256 w) {} (fun r15 hr15=>TL.r 12 [] [(187,.i (w64 (r15 + 2))),(188,.pt b6 13)] {} (TL.s 1 (Bk b6 (Za.c (⟨⟨r5.1.Track.ID,r5.1.Track.State,r5.1.Track.Time,⟨r7,r8⟩,⟨r12,r13⟩,r5.1.Track.Height,r5.1.Track.Rate,w64 (r9 + 2),r5.1.Track.Code,r5.1.Track.Hits,r5.1.Track.Misses⟩,w64 (r15 + 2),r5.1.Last⟩:Za)) 44) (fun _=>{}) (TL.nr (TL.r 9 [5,6] [(189,.p0 b6),(196,.i (w64 (16 * (w64 (s.Height - f.Last.Height))))),(197,.i (w64 (s.Time - f.Last.Time)))] {} (TL.c 198 (ZT (w64 (16 * (w64 (s.Height - f.Last.Height)))) (w64 (s.Time - f.Last.Time))) (fun r16=>.i r16) (fun w _=>Q8 (w64 (16 * (w64 (s.Height - f.Last.Height)))) (w64 (s.Time - f.Last.Time)) w) {} (fun r16 hr16=>TL.c 199 (Xn r16 (-3200) 3200) (fun r17=>.i r17) (fun w _=>U2 r16 (-3200) 3200 w) {} (fun r17 hr17=>TL.r 13 [] [(201,.pt b6 8)] {} (TL.s 1 (Bk b6 (Za.c (⟨⟨r5.1.Track.ID,r5.1.Track.State,r5.1.Track.Time,⟨r7,r8⟩,⟨r12,r13⟩,r5.1.Track.Height,r17,w64 (r9 + 2),r5.1.Track.Code,r5.1.Track.Hits,r5.1.Track.Misses⟩,w64 (r15 + 2),r5.1.Last⟩:Za)) 44) (fun _=>{}) (TL.nr (TL.r 5 [5] [(204,.i s.Height),(206,.pt b6 7)] {} (TL.s 1 (Bk b6 (Za.c (⟨⟨r5.1.Track.ID,r5.1.Track.State,r5.1.Track.Time,⟨r7,r8⟩,⟨r12,r13⟩,s.Height,r17,w64 (r9 + 2),r5.1.Track.Code,r5.1.Track.Hits,r5.1.Track.Misses⟩,w64 (r15 + 2),r5.1.Last⟩:Za)) 44) (fun _=>{}) (TL.ns (TC.sr (TL.r 3 [5] [(209,.b (s.Code != (-1)))] {} (TL.next rfl (TC.cond (s.Code != (-1)) rfl Kr (fun h8=>?_) (fun h8=>?_))))))))))))))))))))))))))))))))))
                  · refine TC.region (TL.r 5 [5] [(212,.i s.Code),(214,.pt b6 10)] {} (TL.s 1 (Bk b6 (Za.c (⟨⟨r5.1.Track.ID,r5.1.Track.State,r5.1.Track.Time,⟨r7,r8⟩,⟨r12,r13⟩,s.Height,r17,w64 (r9 + 2),s.Code,r5.1.Track.Hits,r5.1.Track.Misses⟩,w64 (r15 + 2),r5.1.Last⟩:Za)) 44) (fun _=>{}) (TL.nr (TL.r 7 [1] [(219,.i (w64 (r5.1.Track.Hits + 1))),(221,.pt b6 11)] {} (TL.s 1 (Bk b6 (Za.c (⟨⟨r5.1.Track.ID,r5.1.Track.State,r5.1.Track.Time,⟨r7,r8⟩,⟨r12,r13⟩,s.Height,r17,w64 (r9 + 2),s.Code,w64 (r5.1.Track.Hits + 1),r5.1.Track.Misses⟩,w64 (r15 + 2),r5.1.Last⟩:Za)) 44) (fun _=>{}) (TL.nr (TL.r 3 [] [(224,.pt b6 12)] {} (TL.s 1 (Bk b6 (Za.c (⟨⟨r5.1.Track.ID,r5.1.Track.State,r5.1.Track.Time,⟨r7,r8⟩,⟨r12,r13⟩,s.Height,r17,w64 (r9 + 2),s.Code,w64 (r5.1.Track.Hits + 1),0⟩,w64 (r15 + 2),r5.1.Last⟩:Za)) 44) (fun _=>{}) (TL.nr (TL.r 2 [5] [(225,Zf.v s),(226,.pt b6 14)] {} (TL.s 1 (Bk b6 (Za.c (⟨⟨r5.1.Track.ID,r5.1.Track.State,r5.1.Track.Time,⟨r7,r8⟩,⟨r12,r13⟩,s.Height,r17,w64 (r9 + 2),s.Code,w64 (r5.1.Track.Hits + 1),0⟩,w64 (r15 + 2),s⟩:Za)) 44) (fun _=>{}) (TL.ns (TC.sr (TL.r 1 [1] [(227,Za.v (⟨⟨r5.1.Track.ID,r5.1.Track.State,r5.1.Track.Time,⟨r7,r8⟩,⟨r12,r13⟩,s.Height,r17,w64 (r9 + 2),s.Code,w64 (r5.1.Track.Hits + 1),0⟩,w64 (r15 + 2),s⟩:Za))] {} (TL.c 228 (Z1 (⟨⟨r5.1.Track.ID,r5.1.Track.State,r5.1.Track.Time,⟨r7,r8⟩,⟨r12,r13⟩,s.Height,r17,w64 (r9 + 2),s.Code,w64 (r5.1.Track.Hits + 1),0⟩,w64 (r15 + 2),s⟩:Za)) (fun r18=>.i r18) (fun w _=>XA (⟨⟨r5.1.Track.ID,r5.1.Track.State,r5.1.Track.Time,⟨r7,r8⟩,⟨r12,r13⟩,s.Height,r17,w64 (r9 + 2),s.Code,w64 (r5.1.Track.Hits + 1),0⟩,w64 (r15 + 2),s⟩:Za) w) {} (fun r18 hr18=>TL.r 3 [] [(229,.b (r18 != 0))] {} (TL.next rfl (TC.cond (r18 != 0) rfl Kr (fun h9=>?_) (fun h9=>?_)))))))))))))))))))
                    · exact TC.sr (TL.r 1 [3] [(230,Za.v (⟨⟨0,0,0,⟨0,0⟩,⟨0,0⟩,0,0,0,0,0,0⟩,0,⟨0,⟨0,0⟩,0,0,0⟩⟩:Za))] {} (TL.s 4 (Bk b3 (Za.c Za.zero) 44) (fun _=>{}) (TL.r 3 [] [(11,.i 8)] {} (TL.next rfl (TC.ret (TE.rt (TE.ret [4] (.tuple #[Za.v (⟨⟨0,0,0,⟨0,0⟩,⟨0,0⟩,0,0,0,0,0,0⟩,0,⟨0,⟨0,0⟩,0,0,0⟩⟩:Za),.i 8]) {} (by unfold ZK;refine eS (a:=((⟨⟨0,0,0,⟨0,0⟩,⟨0,0⟩,0,0,0,0,0,0⟩,0,⟨0,⟨0,0⟩,0,0,0⟩⟩:Za),8)) (fun (z:Za × Int)=>(.tuple #[Za.v z.1,.i z.2]:Value)) ?_;subst hr1 hr2 hr3 hr4 hr5 hr6 hr7 hr8 hr9 hr10 hr11 hr12 hr13 hr14 hr15 hr16 hr17 hr18;exact Zb h1 (Zb h2 (Zb h3 (Zb h4 (Zb h5 (Zb h6 (Zb h7 (Zi h8 (Zi h9 (rfl)))))))))))))))))
                    · exact TC.snr (TL.r 1 [1] [(231,Za.v (⟨⟨r5.1.Track.ID,r5.1.Track.State,r5.1.Track.Time,⟨r7,r8⟩,⟨r12,r13⟩,s.Height,r17,w64 (r9 + 2),s.Code,w64 (r5.1.Track.Hits + 1),0⟩,w64 (r15 + 2),s⟩:Za))] {} (TL.s 4 (Bk b3 (Za.c (⟨⟨r5.1.Track.ID,r5.1.Track.State,r5.1.Track.Time,⟨r7,r8⟩,⟨r12,r13⟩,s.Height,r17,w64 (r9 + 2),s.Code,w64 (r5.1.Track.Hits + 1),0⟩,w64 (r15 + 2),s⟩:Za)) 44) (fun _=>{}) (TL.r 3 [] [(11,.i 0)] {} (TL.next rfl (TC.ret (TE.ret [4] (.tuple #[Za.v (⟨⟨r5.1.Track.ID,r5.1.Track.State,r5.1.Track.Time,⟨r7,r8⟩,⟨r12,r13⟩,s.Height,r17,w64 (r9 + 2),s.Code,w64 (r5.1.Track.Hits + 1),0⟩,w64 (r15 + 2),s⟩:Za),.i 0]) {} (by unfold ZK;refine eS (a:=((⟨⟨r5.1.Track.ID,r5.1.Track.State,r5.1.Track.Time,⟨r7,r8⟩,⟨r12,r13⟩,s.Height,r17,w64 (r9 + 2),s.Code,w64 (r5.1.Track.Hits + 1),0⟩,w64 (r15 + 2),s⟩:Za),0)) (fun (z:Za × Int)=>(.tuple #[Za.v z.1,.i z.2]:Value)) ?_;subst hr1 hr2 hr3 hr4 hr5 hr6 hr7 hr8 hr9 hr10 hr11 hr12 hr13 hr14 hr15 hr16 hr17 hr18;exact Zb h1 (Zb h2 (Zb h3 (Zb h4 (Zb h5 (Zb h6 (Zb h7 (Zi h8 (Zb h9 (rfl))))))))))))))))
                  · refine TC.snr (TL.r 7 [1] [(219,.i (w64 (r5.1.Track.Hits + 1))),(221,.pt b6 11)] {} (TL.s 1 (Bk b6 (Za.c (⟨⟨r5.1.Track.ID,r5.1.Track.State,r5.1.Track.Time,⟨r7,r8⟩,⟨r12,r13⟩,s.Height,r17,w64 (r9 + 2),r5.1.Track.Code,w64 (r5.1.Track.Hits + 1),r5.1.Track.Misses⟩,w64 (r15 + 2),r5.1.Last⟩:Za)) 44) (fun _=>{}) (TL.nr (TL.r 3 [] [(224,.pt b6 12)] {} (TL.s 1 (Bk b6 (Za.c (⟨⟨r5.1.Track.ID,r5.1.Track.State,r5.1.Track.Time,⟨r7,r8⟩,⟨r12,r13⟩,s.Height,r17,w64 (r9 + 2),r5.1.Track.Code,w64 (r5.1.Track.Hits + 1),0⟩,w64 (r15 + 2),r5.1.Last⟩:Za)) 44) (fun _=>{}) (TL.nr (TL.r 2 [5] [(225,Zf.v s),(226,.pt b6 14)] {} (TL.s 1 (Bk b6 (Za.c (⟨⟨r5.1.Track.ID,r5.1.Track.State,r5.1.Track.Time,⟨r7,r8⟩,⟨r12,r13⟩,s.Height,r17,w64 (r9 + 2),r5.1.Track.Code,w64 (r5.1.Track.Hits + 1),0⟩,w64 (r15 + 2),s⟩:Za)) 44) (fun _=>{}) (TL.ns (TC.sr (TL.r 1 [1] [(227,Za.v (⟨⟨r5.1.Track.ID,r5.1.Track.State,r5.1.Track.Time,⟨r7,r8⟩,⟨r12,r13⟩,s.Height,r17,w64 (r9 + 2),r5.1.Track.Code,w64 (r5.1.Track.Hits + 1),0⟩,w64 (r15 + 2),s⟩:Za))] {} (TL.c 228 (Z1 (⟨⟨r5.1.Track.ID,r5.1.Track.State,r5.1.Track.Time,⟨r7,r8⟩,⟨r12,r13⟩,s.Height,r17,w64 (r9 + 2),r5.1.Track.Code,w64 (r5.1.Track.Hits + 1),0⟩,w64 (r15 + 2),s⟩:Za)) (fun r19=>.i r19) (fun w _=>XA (⟨⟨r5.1.Track.ID,r5.1.Track.State,r5.1.Track.Time,⟨r7,r8⟩,⟨r12,r13⟩,s.Height,r17,w64 (r9 + 2),r5.1.Track.Code,w64 (r5.1.Track.Hits + 1),0⟩,w64 (r15 + 2),s⟩:Za) w) {} (fun r19 hr19=>TL.r 3 [] [(229,.b (r19 != 0))] {} (TL.next rfl (TC.cond (r19 != 0) rfl Kr (fun h10=>?_) (fun h10=>?_))))))))))))))))
                    · exact TC.sr (TL.r 1 [3] [(230,Za.v (⟨⟨0,0,0,⟨0,0⟩,⟨0,0⟩,0,0,0,0,0,0⟩,0,⟨0,⟨0,0⟩,0,0,0⟩⟩:Za))] {} (TL.s 4 (Bk b3 (Za.c Za.zero) 44) (fun _=>{}) (TL.r 3 [] [(11,.i 8)] {} (TL.next rfl (TC.ret (TE.rt (TE.ret [4] (.tuple #[Za.v (⟨⟨0,0,0,⟨0,0⟩,⟨0,0⟩,0,0,0,0,0,0⟩,0,⟨0,⟨0,0⟩,0,0,0⟩⟩:Za),.i 8]) {} (by unfold ZK;refine eS (a:=((⟨⟨0,0,0,⟨0,0⟩,⟨0,0⟩,0,0,0,0,0,0⟩,0,⟨0,⟨0,0⟩,0,0,0⟩⟩:Za),8)) (fun (z:Za × Int)=>(.tuple #[Za.v z.1,.i z.2]:Value)) ?_;subst hr1 hr2 hr3 hr4 hr5 hr6 hr7 hr8 hr9 hr10 hr11 hr12 hr13 hr14 hr15 hr16 hr17 hr19;exact Zb h1 (Zb h2 (Zb h3 (Zb h4 (Zb h5 (Zb h6 (Zb h7 (Zb h8 (Zi h10 (rfl)))))))))))))))))
                    · exact TC.snr (TL.r 1 [1] [(231,Za.v (⟨⟨r5.1.Track.ID,r5.1.Track.State,r5.1.Track.Time,⟨r7,r8⟩,⟨r12,r13⟩,s.Height,r17,w64 (r9 + 2),r5.1.Track.Code,w64 (r5.1.Track.Hits + 1),0⟩,w64 (r15 + 2),s⟩:Za))] {} (TL.s 4 (Bk b3 (Za.c (⟨⟨r5.1.Track.ID,r5.1.Track.State,r5.1.Track.Time,⟨r7,r8⟩,⟨r12,r13⟩,s.Height,r17,w64 (r9 + 2),r5.1.Track.Code,w64 (r5.1.Track.Hits + 1),0⟩,w64 (r15 + 2),s⟩:Za)) 44) (fun _=>{}) (TL.r 3 [] [(11,.i 0)] {} (TL.next rfl (TC.ret (TE.ret [4] (.tuple #[Za.v (⟨⟨r5.1.Track.ID,r5.1.Track.State,r5.1.Track.Time,⟨r7,r8⟩,⟨r12,r13⟩,s.Height,r17,w64 (r9 + 2),r5.1.Track.Code,w64 (r5.1.Track.Hits + 1),0⟩,w64 (r15 + 2),s⟩:Za),.i 0]) {} (by unfold ZK;refine eS (a:=((⟨⟨r5.1.Track.ID,r5.1.Track.State,r5.1.Track.Time,⟨r7,r8⟩,⟨r12,r13⟩,s.Height,r17,w64 (r9 + 2),r5.1.Track.Code,w64 (r5.1.Track.Hits + 1),0⟩,w64 (r15 + 2),s⟩:Za),0)) (fun (z:Za × Int)=>(.tuple #[Za.v z.1,.i z.2]:Value)) ?_;subst hr1 hr2 hr3 hr4 hr5 hr6 hr7 hr8 hr9 hr10 hr11 hr12 hr13 hr14 hr15 hr16 hr17 hr19;exact Zb h1 (Zb h2 (Zb h3 (Zb h4 (Zb h5 (Zb h6 (Zb h7 (Zb h8 (Zb h10 (rfl))))))))))))))))
end Go.Sky
end
