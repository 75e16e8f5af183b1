/- Proves the given statement of this seat that YtjggkpkehdnhiaaGreatDoorRowTopBias names, from the texts before it; no condition is added. -/
import Derived.Test.YtjggkpkehdnhiaaGreatDoorBi20
import Derived.Test.YtjggkpkehdnhiaaGreatDoorBi02
import Derived.Test.YtjggkpkehdnhiaaGreatDoorBi11
import Derived.Lib.LaidTab
import Derived.LaidMore
import Derived.LaidLaws
import Derived.MakeChecks
import Derived.LaidHandle
import Derived.OpenShut
import Derived.Test.YtjggkpkehdnhiaaGreatDoorRows
import Derived.Test.YtjggkpkehdnhiaaGreatDoorTie
import Derived.Test.YtjggkpkehdnhiaaGreatDoorCards
section
namespace Go.Sky
open Go Go.Eng
structure Seen (fs:List bFlight) (o:BiasOffset) (j:Nat) (truth seen:List Plot):Prop where
  len:truth.length=j
  map:seen=truth.map fun p=>(bias_Apply p o).1
  ok:∀ p ∈ truth,(bias_Apply p o).2=0
  el:∀ i,i < j → ∃ f,fs[i % fs.length]? = some f ∧ truth[i]? = some (radar_Plot site1 (spotOf f (4 * ((i / fs.length:Nat):Int)))).1
theorem bias_L2 {fs:List bFlight} (hf:∀ f ∈ fs,FlyIn f) {r4 r5 r6:Int} {r7:List RadarSite} (h7:r7[0]?.getD RadarSite.zero=site1) {k:Nat} (hk:k < 5) :
    ∀ (xs:List bFlight) (q:Nat) (truth seen:List Plot),fs.drop q=xs → q + xs.length=fs.length → Seen fs ⟨r4,r5,r6⟩ (k * fs.length + q) truth seen →
      skywaytop_TopBias_L2 r4 r5 r6 r7 k xs q truth seen=.inr true ∨ ∃ t s,skywaytop_TopBias_L2 r4 r5 r6 r7 k xs q truth seen=.inl (t,s) ∧ Seen fs ⟨r4,r5,r6⟩ ((k + 1) * fs.length) t s
  | [],q,truth,seen,_,hq,h=>.inr ⟨truth,seen,rfl,by
      rw [List.length_nil,Nat.add_zero] at hq
      rw [hq] at h;rw [Nat.add_mul,Nat.one_mul];exact h⟩
  | x :: xs,q,truth,seen,hd,hq,h=>by
    rw [List.length_cons] at hq
    have d1:fs.drop (q + 1)=xs:=by rw [← List.drop_drop,hd];rfl
    have d2:fs[q]? = some x:=by
      have:(fs.drop q)[0]? = some x:=by rw [hd];rfl
      rwa [List.getElem?_drop,Nat.add_zero] at this
    have hx:=hf x (List.mem_of_getElem? d2)
    unfold skywaytop_TopBias_L2
    dsimp only
    rw [h7,w64_id (x:=4 * (k:Int)) (by omega)]
    rw [show (⟨4 * (k:Int),skywaytop_bFlight_place x (4 * (k:Int)),x.height,x.code,0⟩:Spot)=spotOf x (4 * (k:Int)) from rfl,seen1 hx (by omega)]
    rw [show ((0:Int) != 0)=false from rfl,cond_false]
    cases hb:((bias_Apply (radar_Plot site1 (spotOf x (4 * (k:Int)))).1 ⟨r4,r5,r6⟩).2 != 0) with
    | true=>exact .inl rfl
    | false =>
      rw [cond_false]
      have hb0:(bias_Apply (radar_Plot site1 (spotOf x (4 * (k:Int)))).1 ⟨r4,r5,r6⟩).2=0:=by simpa using hb
      refine bias_L2 hf h7 hk xs (q + 1) _ _ d1 (by omega) ⟨?_,?_,?_,?_⟩
      · rw [List.length_append,h.len,List.length_singleton];omega
      · rw [List.map_append,← h.map];rfl
      · intro p hp
        rcases List.mem_append.1 hp with hp | hp
        · exact h.ok p hp
        · rw [List.mem_singleton.1 hp];exact hb0
      · intro i hi
        by_cases h1:i < k * fs.length + q
        · obtain ⟨f,e1,e2⟩:=h.el i h1
          exact ⟨f,e1,by rw [List.getElem?_append_left (by rw [h.len];exact h1)];exact e2⟩
        · have hiq:i=q + fs.length * k:=by rw [Nat.mul_comm];omega
          have m1:i % fs.length=q:=by rw [hiq,Nat.add_mul_mod_self_left,Nat.mod_eq_of_lt (by omega)]
          have m2:i / fs.length=k:=by rw [hiq,Nat.add_mul_div_left _ _ (by omega),Nat.div_eq_of_lt (by omega),Nat.zero_add]
          refine ⟨x,by rw [m1];exact d2,?_⟩
          rw [m2,List.getElem?_append_right (by rw [h.len];omega),h.len,show i - (k * fs.length + q)=0 by omega];rfl
theorem bias_L1 {fs:List bFlight} (hf:∀ f ∈ fs,FlyIn f) {r4 r5 r6:Int} {r7:List RadarSite} (h7:r7[0]?.getD RadarSite.zero=site1) :
    ∀ (m k:Nat) (truth seen:List Plot),k + m=5 → Seen fs ⟨r4,r5,r6⟩ (k * fs.length) truth seen →
      skywaytop_TopBias_L1 fs r4 r5 r6 r7 m k truth seen=.inr true ∨ ∃ t s,skywaytop_TopBias_L1 fs r4 r5 r6 r7 m k truth seen=.inl (t,s) ∧ Seen fs ⟨r4,r5,r6⟩ (5 * fs.length) t s
  | 0,k,truth,seen,hk,h=>.inr ⟨truth,seen,rfl,by rw [show k=5 by omega] at h;exact h⟩
  | m + 1,k,truth,seen,hk,h=>by
    unfold skywaytop_TopBias_L1
    rcases bias_L2 hf h7 (r4:=r4) (r5:=r5) (r6:=r6) (k:=k) (by omega) fs 0 truth seen List.drop_zero (Nat.zero_add _) h with e | ⟨t,s,e,h2⟩
    · rw [e];exact .inl rfl
    · rw [e];exact bias_L1 hf h7 m (k + 1) t s (by omega) h2
theorem bias_L3 {fs:List bFlight} (hf:∀ f ∈ fs,FlyIn f) (hn:0 < fs.length ∧ fs.length ≤ 3) {o:BiasOffset} {r7:List RadarSite} (h7:r7[0]?.getD RadarSite.zero=site1) {truth seen:List Plot} (h:Seen fs o (5 * fs.length) truth seen) :
    ∀ (xs:List Plot) (k:Nat),seen.drop k=xs → skywaytop_TopBias_L3 fs r7 (o,0) xs k=.inl ()
  | [],_,_=>rfl
  | x :: xs,k,hd=>by
    have d1:seen.drop (k + 1)=xs:=by rw [← List.drop_drop,hd];rfl
    have d2:seen[k]? = some x:=by
      have:(seen.drop k)[0]? = some x:=by rw [hd];rfl
      rwa [List.getElem?_drop,Nat.add_zero] at this
    have hk:k < 5 * fs.length:=by
      have:=(List.getElem?_eq_some_iff.1 d2).1
      rw [h.map,List.length_map,h.len] at this;exact this
    obtain ⟨f,e1,e2⟩:=h.el k hk
    have hfl:=hf f (List.mem_of_getElem? e1)
    have hq:k / fs.length < 5:=Nat.div_lt_of_lt_mul (by rw [Nat.mul_comm];exact hk)
    have ht:0 ≤ 4 * ((k / fs.length:Nat):Int) ∧ 4 * ((k / fs.length:Nat):Int) ≤ 200:=by
      have z0:(0:Int) ≤ ((k / fs.length:Nat):Int):=Int.natCast_nonneg _
      have z1:((k / fs.length:Nat):Int) < 5:=Int.ofNat_lt.2 hq
      generalize ((k / fs.length:Nat):Int)=z at z0 z1
      omega
    generalize hp:(radar_Plot site1 (spotOf f (4 * ((k / fs.length:Nat):Int)))).1=p at e2
    have hpm:p ∈ truth:=List.mem_of_getElem? e2
    have hxp:x=(bias_Apply p o).1:=by
      rw [h.map,List.getElem?_map,e2] at d2
      simpa using d2.symm
    have hs:=seen1 hfl ht
    have hc:=correct_of (h.ok p hpm)
    have hk1:=plot_check hs
    have hra:=plot_range hs
    have haz:=plot_azimuth hs
    have hpo:=plot_ok hs
    rw [hp] at hk1 hra haz
    have hrange:p.Range ≤ 400000:=by
      rw [← hp,hpo.2.2.2.2]
      have pl:=place_is hfl ht
      have pi:PIn (spotOf f (4 * ((k / fs.length:Nat):Int))).At:=by unfold spotOf PIn;simp only;rw [pl.1];simp only;omega
      have si:PIn site1.At:=by unfold PIn site1;decide
      have q:=psquare si pi
      have a:=sq_bd (x:=site1.At.X - (spotOf f (4 * ((k / fs.length:Nat):Int))).At.X) (n:=110000) (by unfold spotOf site1;simp only;rw [pl.1];simp only;omega)
      have b:=sq_bd (x:=site1.At.Y - (spotOf f (4 * ((k / fs.length:Nat):Int))).At.Y) (n:=60000) (by unfold spotOf site1;simp only;rw [pl.1];simp only;omega)
      have r:=root_is (n:=plane_Square site1.At (spotOf f (4 * ((k / fs.length:Nat):Int))).At) (by rw [q.1];exact ⟨by omega,q.2⟩)
      simp only
      rcases Int.lt_or_le 400000 (num_Root (plane_Square site1.At (spotOf f (4 * ((k / fs.length:Nat):Int))).At)) with g | g
      · exfalso
        have:=Int.mul_le_mul (Int.le_of_lt g) (Int.le_of_lt g) (by decide) r.1
        rw [q.1] at r this
        omega
      · exact g
    have hx2:=spot_fine (s:=site1) (p:=p) (by kernel_rfl) hk1.1 hk1.2 ⟨hra.1,hrange⟩ haz (by decide) (by decide)
    have hh:sqr (radar_Spot site1 p).1.At (spotOf f (4 * ((k / fs.length:Nat):Int))).At ≤ (radar_Spot site1 p).1.Error * (radar_Spot site1 p).1.Error:=by
      have:=spot_holds hs (by rw [hp];exact hx2)
      rwa [hp] at this
    have en:=err_nn hx2
    have mo:((k:Int).tmod (fs.length:Int)).toNat=k % fs.length:=by rw [Int.tmod_eq_emod_of_nonneg (by omega)];omega
    have di:(k:Int).tdiv (fs.length:Int)=((k / fs.length:Nat):Int):=by rw [Int.tdiv_eq_ediv_of_nonneg (by omega)];omega
    unfold skywaytop_TopBias_L3
    dsimp only
    rw [h7,hxp,hc]
    dsimp only
    rw [hx2,mo,e1,Option.getD_some,di,w64_id (x:=((k / fs.length:Nat):Int)) (by omega),w64_id (by omega)]
    rw [show (((0:Int) != 0) || ((0:Int) != 0))=false from rfl,cond_false,err_fit en.1 en.2]
    rw [show skywaytop_bSquare (radar_Spot site1 p).1.At (skywaytop_bFlight_place f (4 * ((k / fs.length:Nat):Int)))=sqr (radar_Spot site1 p).1.At (spotOf f (4 * ((k / fs.length:Nat):Int))).At from rfl,decide_eq_false (by omega),cond_false]
    exact bias_L3 hf hn h7 h xs (k + 1) d1
theorem TopBias_true (x0:List Int) (x1:BiasOffset) (_s0:x0.length < 4611686018427387904) (_k0:∀ a ∈ x0,Go.Glue.I64 a) (_k1:x1.ok):skywaytop_TopBias x0 x1=true:=by
  have hfl:=flights_in x0
  unfold skywaytop_TopBias
  dsimp only
  rw [lives_true,Bool.not_true,Bool.false_or]
  generalize skywaytop_bFlights x0=fs at hfl
  cases h0:((fs.length:Int) == 0) with
  | true=>rfl
  | false =>
    have hn:0 < fs.length:=by
      have:¬ (fs.length:Int)=0:=by simpa using h0
      omega
    rw [cond_false]
    generalize skywaytop_bWithin x1.Range (-900) 900=r4
    generalize skywaytop_bWithin x1.Azimuth (-50) 50=r5
    generalize skywaytop_bWithin x1.Time 0 5=r6
    have h7:skywaytop_bRadars[0]?.getD RadarSite.zero=site1:=rfl
    generalize skywaytop_bRadars=r7 at h7
    rcases bias_L1 hfl.2 h7 (r4:=r4) (r5:=r5) (r6:=r6) 5 0 [] [] rfl ⟨by simp,rfl,(fun _ h=>nomatch h),(fun i hi=>by omega)⟩ with e | ⟨t,s,e,h⟩
    · rw [show ((5:Int).toNat)=5 from rfl,e];rfl
    · rw [show ((5:Int).toNat)=5 from rfl,e]
      dsimp only [Sum.elim_inl]
      have he:=estimate_all (o:=⟨r4,r5,r6⟩) (xs:=t) (by rw [h.len];omega) (by rw [h.len];omega) h.ok
      rw [← h.map] at he
      rw [he]
      dsimp only
      rw [show ((0:Int) != 0)=false from rfl,cond_false,BiasOffset.eqb_eq,decide_eq_true rfl,Bool.not_true,cond_false,bias_L3 hfl.2 ⟨hn,hfl.1⟩ h7 h s 0 List.drop_zero]
      rfl
end Go.Sky
end
section
namespace Go.Glue
open Go.ChangeShapes Go.WideShapes Go.ChangeAt Go.RowKit Go.Eng
theorem trod_flt {H:Type} {enc:TypeId × Value → H} {P:Program} {w:World} {base:Nat} {sp:Nat → Bool} {held:Bool} {fuel:Nat} {t:TypeId} {cs:List Value} {x:DataW H × List MemPlace}
    (ht:P.underlying t=some (.float .f64)) (h:DataW.trod enc P w base sp held fuel t cs=some x):∃ n,cs=[.float .f64 n] ∧ x=(.lit (.float .f64 n),[]):=by
  cases fuel with
  | zero=>simp [DataW.trod] at h
  | succ n =>
    unfold DataW.trod at h
    rw [ht] at h
    split at h <;> simp_all
theorem cells_flt {H:Type} {enc:TypeId × Value → H} {P:Program} {w:World} {base:Nat} {sp:Nat → Bool} {held:Bool} {fuel:Nat} {t e:TypeId} {n:Nat} {cs:List Value} {zs:List Nat} {p:List MemPlace}
    (ht:P.underlying t=some (.array n e)) (he:P.underlying e=some (.float .f64)) (hce:P.cellsOf e=1) (hct:P.cellsOf t=n)
    (h:DataW.trod enc P w base sp held fuel t cs=some (.agg (zs.map fun z=>(DataW.lit (.float .f64 z):DataW H)),p)):∀ (i:Nat) (z:Nat),zs[i]? = some z → cs[i]? = some (Value.float .f64 z):=by
  cases fuel with
  | zero=>simp [DataW.trod] at h
  | succ fuel =>
    simp only [DataW.trod,ht,hce,hct,Nat.mul_one] at h
    split at h
    · obtain ⟨xs,hm,hx⟩:=Option.map_eq_some_iff.1 h
      intro i z hz
      have e1:xs.map (·.1)=zs.map fun z=>(DataW.lit (.float .f64 z):DataW H):=by simpa using congrArg Prod.fst hx
      have hl:=Lib.mapM_length hm
      rw [List.length_range] at hl
      have l2:xs.length=zs.length:=by simpa using congrArg List.length e1
      have hi:i < n:=by have:=(List.getElem?_eq_some_iff.1 hz).1;omega
      obtain ⟨b,hb,hf⟩:=Lib.mapM_at hm i i (by simp [hi])
      obtain ⟨y,hc,rfl⟩:=trod_flt he hf
      have h1:cs[i]? = some (Value.float .f64 y):=by
        have h:=congrArg (fun l=>l[0]?) hc
        rw [List.getElem?_take_of_lt (by decide),List.getElem?_drop,Nat.add_zero] at h
        exact h
      have h2:(xs.map (·.1))[i]? = some (DataW.lit (.float .f64 y):DataW H):=by simp [hb]
      rw [e1] at h2
      simp [hz] at h2
      rw [h1,h2]
    · cases h
theorem tab_of {P:Program} {W:World} {name:String} {zs:List Nat} {g:Nat} {t e:TypeId} {n:Nat} (hg:P.globalNamed name=some g) (hty:(P.globals[g]?).map (·.type)=some t) (ht:P.underlying t=some (.array n e)) (he:P.underlying e=some (.float .f64)) (hce:P.cellsOf e=1) (hct:P.cellsOf t=n)
    (h:∃ (g':Nat) (t':TypeId) (cs:Array Value) (fuel:Nat) (p:List MemPlace),P.globalNamed name=some g' ∧ (P.globals[g']?).map (·.type)=some t' ∧ W.var? P name=some cs ∧ DataW.trod (H:=Unit) (fun _=>()) P W 0 (fun _=>true) false fuel t' cs.toList=some (.agg (zs.map fun z=>(DataW.lit (.float .f64 z):DataW Unit)),p))
    (h0:0 < zs.length):TabF W g zs:=by
  obtain ⟨g',t',cs,fuel,p,hg',ht',hvar,hd⟩:=h
  obtain rfl:=Option.some.inj (hg.symm.trans hg')
  obtain rfl:=Option.some.inj (hty.symm.trans ht')
  have hc:=cells_flt ht he hce hct hd
  have cell:∀ (i z:Nat),zs[i]? = some z → W.cell? ⟨g,i,none⟩=some (.float .f64 z):=fun i z hz=>by
    have a:=World.var?_cell hg hvar i
    have b:=hc i z hz
    rw [Array.getElem?_toList] at b
    rw [a,b]
  refine ⟨?_,cell⟩
  have:=cell 0 (zs[0]'h0) (List.getElem?_eq_getElem h0)
  unfold World.cell? at this
  cases hb:W.heap[(⟨g,0,none⟩:Addr).block]? with
  | none=>rw [hb] at this;cases this
  | some o=>exact (Array.getElem?_eq_some_iff.1 hb).1
section
variable {H:Type} {enc:TypeId × Value → H}
theorem liftL {C:Checked} {os:Os} {f:FuncId} {fn:Func} {s:ChangeSpec} {tb:TypeId} {L:List (String × DataW Unit)} (hX:∀ w w':World,w.heap=w'.heap → laidMetH C.prog L w → laidMetH C.prog L w') (own:ownKnob C.prog.godebug=none) (started:os.Started) (noInit:C.prog.inits.idxOf? f=none) (hfn:C.prog.funcs[f]? = some fn)
    (hl:laidOutB C.prog=true) (hread:fn.params.toList.all (fun t=>C.prog.readableRec t && decide (t < C.prog.types.size))=true) (hv:s.vars=[]) (hres:fn.resultTypes=#[tb]) (htb:C.prog.underlying tb=some .bool)
    (hs:∀ ds:List (DataW H),ds.length=fn.params.size → s.fn H ds={ results:=[.lit (.bool true)],args:=ds })
    (witness:∃ (w:World) (tape:Tape) (i:Input),w.os=os ∧ (w.forCall tape i).Shaped C.prog ∧ i.vars=[] ∧ Input.okWide C.prog (w.forCall tape i) .any w.heap.size f i ∧
      ((s.pre enc C.prog fn [] false (w.forCall tape i).memory i.args ∧ laidMetH C.prog L (w.forCall tape i).memory) ∧ sizedMet enc C.prog fn (OpenSpec.ofChange s) false (w.forCall tape i).memory i.args) ∧ ({}:Assume).holds C.prog (lone (Frame.enter C.prog f i.args .normal) [] (w.forCall tape i)))
    (law:∀ (W:World) (base:Nat) (args:Array Value) (ds:List (DataW H)) (p:List MemPlace),(∀ (j:Nat) t v,fn.params[j]? = some t → args[j]? = some v → Value.okWide C.prog W .any base t v) →
      DataW.TrodAll enc C.prog W 0 (fun _=>true) true fn.params.toList args.toList ds p → (∀ (j:Nat) (t:TypeId) (d:DataW H),fn.params.toList[j]? = some t → ds[j]? = some d → ∀ n ∈ d.weights C.prog t,n ≤ reachBytes) →
      laidMetH C.prog L W → Calls C.prog f args W (Ret W (.bool true))) :
    ReturnsInHanded {} C os f .any (fun w args=>(s.pre enc C.prog fn [] false w args ∧ laidMetH C.prog L w) ∧ sizedMet enc C.prog fn (OpenSpec.ofChange s) false w args) (s.post enc C.prog fn false true false false):=by
  refine returnsInHanded_of_change_and (X:=fun w _=>laidMetH C.prog L w) (fun w w' _ hh h=>hX w w' hh h) own started noInit hfn witness ?_
  intro W base args ds gs before hval hW _ hsz hL _
  have hW':=hW
  obtain ⟨p,q,hA,hV,rfl,hfz,hnd⟩:=hW
  rw [hv] at hV
  obtain ⟨rfl,rfl⟩:=trodVars_none hV
  have hlen:ds.length=fn.params.size:=by
    have:=trodAll_len hA
    simpa using this
  have hlt:∀ x ∈ p,x.block < W.heap.size:=fun x hx=>hW'.lt x (List.mem_append_left _ hx)
  refine (law W base args ds p hval hA (fun j t d ht hd n hn=>?_) hL).mono fun e W' ⟨he,hb⟩=>?_
  · have h1:n ∈ DataW.weightsEach C.prog (fn.params.toList ++ s.plain.varTypes C.prog) (ds ++ []) :=
      DataW.weights_mem_each (j:=j) (by rw [List.getElem?_append_left (by exact (List.getElem?_eq_some_iff.1 ht).1)];exact ht) (by simpa using hd) n hn
    exact of_decide_eq_true (List.all_eq_true.1 hsz n h1)
  · refine ⟨_,he,post_of_below (pa:=p) (pv:=[]) hW' (fun b sp hd=>?_) (fun sp hsp=>?_) (fun sp _=>?_) rfl hb.kit ?_⟩
    · rw [hres,List.append_nil,hs ds hlen];exact trodAll_mk1 (shut_bool htb true)
    · rw [List.append_nil,hs ds hlen];exact args_stay hl hb.kit hread hA hlt (fun x hx=>hsp x (List.mem_append_left _ hx))
    · rw [hv,List.append_nil,hs ds hlen];rfl
    · exact ok_one hres rfl (okWide_bool_mk htb true)
end
end Go.Glue
end
section
namespace Go.Proofs.YtjggkpkehdnhiaaGreatDoor.topBiasRow
open Go.ChangeShapes Go.WideShapes Go.ChangeAt Go.RowKit Go.Glue Go.Eng Go.Sky
theorem opens104:Opens Tryz.prog 104 BiasOffset.c BiasOffset.ok:=by
  intro H enc W base sp hd fuel cs x h
  obtain ⟨xs,n,rfl,rfl,hlen,hxs,hf⟩:=DataW.trod_struct Tryz.underlying104 h
  obtain ⟨y0,h0⟩:=field_at hxs hf 0 _ rfl
  obtain ⟨a0,e0,k0⟩:=(opens_int Tryz.underlying3) h0
  obtain ⟨y1,h1⟩:=field_at hxs hf 1 _ rfl
  obtain ⟨a1,e1,k1⟩:=(opens_int Tryz.underlying3) h1
  obtain ⟨y2,h2⟩:=field_at hxs hf 2 _ rfl
  obtain ⟨a2,e2,k2⟩:=(opens_int Tryz.underlying3) h2
  have hend:cs.drop 3=[]:=List.drop_eq_nil_of_le (by rw [hlen,show Tryz.prog.cellsOf 104=3 by kernel_rfl];exact Nat.le_refl _)
  exact ⟨⟨a0,a1,a2⟩,(cat2 (o:=0) (n:=1) (by kernel_rfl) e0 (cat2 (o:=1) (n:=1) (by kernel_rfl) e1 (cat2 (o:=2) (n:=1) (by kernel_rfl) e2 hend))),k0,k1,k2⟩
theorem own_:ownKnob Tryz.prog.godebug=none:=by kernel_rfl
theorem tabs_of {W:World} (h:laidMetH Tryz.prog Rows.topBiasRow.laid W):Tabs W:=by
  rw [MakeChecks.laidMetH_plain _ _ _ (by kernel_rfl)] at h
  obtain ⟨ps,⟨g0,t0,cs0,f0,p0,q0,hg0,ht0,hv0,hd0,⟨g1,t1,cs1,f1,p1,q1,hg1,ht1,hv1,hd1,⟨g2,t2,cs2,f2,p2,q2,hg2,ht2,hv2,hd2,_,_⟩,_⟩,_⟩,_,_⟩:=h
  exact ⟨tab_of (zs:=cosC) (by kernel_rfl:Tryz.prog.globalNamed "math._cos" = some 1) (by kernel_rfl) Tryz.underlying286 Tryz.underlying215 (by kernel_rfl) (by kernel_rfl) ⟨g1,t1,cs1,f1,p1,hg1,ht1,hv1,hd1⟩ (by decide),tab_of (zs:=sinC) (by kernel_rfl:Tryz.prog.globalNamed "math._sin" = some 2) (by kernel_rfl) Tryz.underlying286 Tryz.underlying215 (by kernel_rfl) (by kernel_rfl) ⟨g0,t0,cs0,f0,p0,hg0,ht0,hv0,hd0⟩ (by decide)⟩
theorem door_met (os:Os) (args:Array Value):laidMetH Tryz.prog Rows.topBiasRow.laid ((World.doorLaid Tryz.prog 400 os).forCall (fun _ _=>0) ⟨#[],args,[]⟩).memory :=
  laidMetH_of_parts3 (fuel:=8) (laidMet_of_run' 8 (by kernel_rfl) (by kernel_rfl)) (by kernel_rfl) (by kernel_rfl)
set_option maxRecDepth 100000 in
theorem lifted (os:Os) (started:os.Started) (H:Type) (enc:TypeId × Value → H) :
    ReturnsInHanded {} Tryz.checked os 8 .any (fun w args=>(Rows.topBiasSpec.pre enc Tryz.prog Tryz.f8 [] false w args ∧ laidMetH Tryz.prog Rows.topBiasRow.laid w) ∧ sizedMet enc Tryz.prog Tryz.f8 (OpenSpec.ofChange Rows.topBiasSpec) false w args) (Rows.topBiasSpec.post enc Tryz.prog Tryz.f8 false true false false):=by
  refine liftL (C:=Tryz.checked) (L:=Rows.topBiasRow.laid) (tb:=4) (fun _ _ hh h=>h.of_heap hh) own_ started (by kernel_rfl) Tryz.func8 (by kernel_rfl) (by kernel_rfl) rfl (by kernel_rfl) Tryz.underlying4 (fun ds h=>by match ds,h with | [_,_],_=>rfl)
    (ChangeSpec.witness_shaped (enc:=enc) (C:=Tryz.checked) (os:=os) (X:=fun w _=>laidMetH Tryz.prog Rows.topBiasRow.laid w) false (World.doorLaid Tryz.prog 400 os) #[.slice none 0 0,(BiasOffset.v BiasOffset.zero)] 8 rfl (World.shaped_of_RefB (by kernel_rfl) (by kernel_rfl)) (by kernel_rfl) (by kernel_rfl) (by kernel_rfl) (door_met os _)) ?_
  intro W base args ds p hval0 hA0 hw0 hL
  have hval:∀ (j:Nat) t v,Tryz.f8.params[j]? = some t → args[j]? = some v → Value.okWide Tryz.prog W .any base t v:=hval0
  have hA:DataW.TrodAll enc Tryz.prog W 0 (fun _=>true) true Tryz.f8.params.toList args.toList ds p:=hA0
  have hw:∀ (j:Nat) (t:TypeId) (d:DataW H),Tryz.f8.params.toList[j]? = some t → ds[j]? = some d → ∀ n ∈ d.weights Tryz.prog t,n ≤ reachBytes:=hw0
  clear hval0 hA0 hw0
  rw [Tryz.params8] at hA hval hw
  obtain ⟨v0,vs0,d0,ds0,p0,q0,hargs,rfl,rfl,h0,s0⟩:=trodAll_cons hA
  obtain ⟨v1,vs1,d1,ds1,p1,q1,rfl,rfl,rfl,h1,s1⟩:=trodAll_cons s0
  obtain ⟨rfl,rfl,rfl⟩:=trodAll_nil s1
  obtain rfl:args=#[v0,v1]:=by cases args;simp_all
  obtain ⟨A0,c0,x0,rfl,r0_,l0_,k0⟩:=arg_slice (opens_int Tryz.underlying3) Tryz.underlying22 (by kernel_rfl:Tryz.prog.cellsOf 3=1) (by decide) rfl (Nat.le_of_ble_eq_true (by kernel_rfl)) (hval 0 22 v0 rfl rfl) h0 (hw 0 _ _ rfl rfl)
  obtain ⟨x1,rfl,k1⟩:=arg_struct opens104 Tryz.underlying104 (hval 1 104 v1 rfl rfl) h1
  have e:=TopBias_true x0 x1 (by have:=r0_.short;rw [List.length_map] at this;exact this) k0 k1
  have r:=skywaytop_TopBias_w A0 c0 x0 x1 W r0_ l0_ (tabs_of hL)
  rw [e] at r
  exact r
end Go.Proofs.YtjggkpkehdnhiaaGreatDoor.topBiasRow
namespace Go.Proofs.YtjggkpkehdnhiaaGreatDoor
theorem topBias_holds:Rows.TopBiasSaid :=
  OpenClaim.holds_of_wide 8 Tryz.f8 rfl rfl rfl rfl rfl rfl rfl ⟨rfl,rfl,rfl,rfl,rfl⟩ rfl rfl rfl rfl rfl (by kernel_rfl) Tryz.func8 (by kernel_rfl)
    (of_decide_eq_true (by kernel_rfl)) (by unfold Func.isWrapper;rw [if_neg (of_decide_eq_false (by kernel_rfl))];exact ⟨rfl,rfl⟩)
    (fun os started H enc _=>topBiasRow.lifted os started H enc)
theorem topBias_card:Rows.TopBiasCardSaid :=
  Claim7.holds_tied_plain_at .later [] [.data,.data,.data] true (true, "74d98562085f6681f41be128b2f0adf57d437f7a8ab0c20d8d444da80047e06a") false
    topBias_holds (fun _ h=>by cases h) (by kernel_rfl) (fun _ h=>by cases h) topBias_row_tie rfl ⟨rfl,rfl⟩ (by kernel_rfl) rfl
    (fun f fn hf hfn=>by
      obtain rfl:f=8:=Option.some.inj ((show Tryz.prog.funcNamed "skyway/skywaytop.TopBias" = some 8 by kernel_rfl).symm.trans hf) |>.symm
      obtain rfl:fn=Tryz.f8:=(Option.some.inj (Tryz.func8.symm.trans hfn)).symm
      exact ⟨by kernel_rfl,fun j t ht=>by
        rw [Tryz.params8] at ht
        rcases j with _ | j
        · have h3:t=22:=by simpa using ht.symm
          subst h3
          exact (show Tryz.prog.wantsStandIn 22=false by kernel_rfl)
        rcases j with _ | j
        · have h3:t=104:=by simpa using ht.symm
          subst h3
          exact (show Tryz.prog.wantsStandIn 104=false by kernel_rfl)
        simp at ht⟩)
    (by kernel_rfl)
end Go.Proofs.YtjggkpkehdnhiaaGreatDoor
end
