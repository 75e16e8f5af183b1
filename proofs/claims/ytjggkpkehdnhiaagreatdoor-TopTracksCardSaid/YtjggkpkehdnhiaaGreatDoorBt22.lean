/- Proves the given statement of this seat that YtjggkpkehdnhiaaGreatDoorRowTopTracks names, from the texts before it; no condition is added. -/
import Derived.Test.YtjggkpkehdnhiaaGreatDoorBt02
import Derived.Test.YtjggkpkehdnhiaaGreatDoorBt13
import Derived.Lib.LaidTab
import Derived.LaidMore
import Derived.LaidLaws
import Derived.MakeChecks
import Derived.LaidHandle
import Derived.OpenShut
import Derived.Test.YtjggkpkehdnhiaaGreatDoorRows
import Derived.Test.YtjggkpkehdnhiaaGreatDoorBt21
import Derived.Test.YtjggkpkehdnhiaaGreatDoorTie
import Derived.Test.YtjggkpkehdnhiaaGreatDoorCards
section
namespace Go.Glue
open Go.ChangeShapes Go.WideShapes Go.ChangeAt Go.RowKit Go.Eng
theorem TY {H:Type} {enc:TypeId×Value→H} {P:Program} {w:World} {base:Nat} {sp:Nat→Bool} {held:Bool} {fuel:Nat} {t:TypeId} {cs:List Value} {x:DataW H×List MemPlace}
  (ht:P.underlying t=some (.float .f64)) (h:DataW.trod enc P w base sp held fuel t cs=some x):∃ n,cs=[.float .f64 n]∧x=(.lit (.float .f64 n),[]):=by
 cases fuel with
 | zero=>simp[DataW.trod] at h
 | succ n =>
  unfold DataW.trod at h
  rw[ht] at h
  split at h <;> simp_all
theorem Ru {H:Type} {enc:TypeId×Value→H} {P:Program} {w:World} {base:Nat} {sp:Nat→Bool} {held:Bool} {fuel:Nat} {t e:TypeId} {n:Nat} {cs:List Value} {zs:List Nat} {p:List MemPlace}
  (ht:P.underlying t=some (.array n e)) (he:P.underlying e=some (.float .f64)) (hce:P.cellsOf e=1) (hct:P.cellsOf t=n)
  (h:DataW.trod enc P w base sp held fuel t cs=some (.agg (zs.map fun z=>(DataW.lit (.float .f64 z):DataW H)),p)):∀ (i:Nat) (z:Nat),zs[i]?=some z→cs[i]?=some (Value.float .f64 z):=by
 cases fuel with
 | zero=>simp[DataW.trod] at h
 | succ fuel =>
  simp only[DataW.trod,ht,hce,hct,Nat.mul_one] at h
  split at h
  ·obtain⟨xs,hm,hx⟩:=Option.map_eq_some_iff.1 h
   intro i z hz
   have e1:xs.map (·.1)=zs.map fun z=>(DataW.lit (.float .f64 z):DataW H):=by simpa using congrArg Prod.fst hx
   have hl:=Lib.mapM_length hm
   rw[List.length_range] at hl
   have l2:xs.length=zs.length:=by simpa using congrArg List.length e1
   have hi:i<n:=by have:=(List.getElem?_eq_some_iff.1 hz).1;omega
   obtain⟨b,hb,hf⟩:=Lib.mapM_at hm i i (by simp[hi])
   obtain⟨y,hc,rfl⟩:=TY he hf
   have h1:cs[i]?=some (Value.float .f64 y):=by
    have h:=congrArg (fun l=>l[0]?) hc
    rw[List.getElem?_take_of_lt (by decide),List.getElem?_drop,Nat.add_zero] at h
    exact h
   have h2:(xs.map (·.1))[i]?=some (DataW.lit (.float .f64 y):DataW H):=by simp[hb]
   rw[e1] at h2
   simp[hz] at h2
   rw[h1,h2]
  ·cases h
theorem TZ {P:Program} {W:World} {name:String} {zs:List Nat} {g:Nat} {t e:TypeId} {n:Nat} (hg:P.globalNamed name=some g) (hty:(P.globals[g]?).map (·.type)=some t) (ht:P.underlying t=some (.array n e)) (he:P.underlying e=some (.float .f64)) (hce:P.cellsOf e=1) (hct:P.cellsOf t=n)
  (h:∃ (g':Nat) (t':TypeId) (cs:Array Value) (fuel:Nat) (p:List MemPlace),P.globalNamed name=some g'∧(P.globals[g']?).map (·.type)=some t'∧W.var? P name=some cs∧DataW.trod (H:=Unit) (fun _=>()) P W 0 (fun _=>true) false fuel t' cs.toList=some (.agg (zs.map fun z=>(DataW.lit (.float .f64 z):DataW Unit)),p))
  (h0:0<zs.length):Mc W g zs:=by
 obtain⟨g',t',cs,fuel,p,hg',ht',hvar,hd⟩:=h
 obtain rfl:=Option.some.inj (hg.symm.trans hg')
 obtain rfl:=Option.some.inj (hty.symm.trans ht')
 have hc:=Ru ht he hce hct hd
 have cell:∀ (i z:Nat),zs[i]?=some z→W.cell? ⟨g,i,none⟩=some (.float .f64 z):=fun i z hz=>by
  have a:=World.var?_cell hg hvar i
  have b:=hc i z hz
  rw[Array.getElem?_toList] at b
  rw[a,b]
 refine⟨?_,cell⟩
 have:=cell 0 (zs[0]'h0) (List.getElem?_eq_getElem h0)
 unfold World.cell? at this
 cases hb:W.heap[(⟨g,0,none⟩:Addr).block]? with
 | none=>rw[hb] at this;cases this
 | some o=>exact(Array.getElem?_eq_some_iff.1 hb).1
section
variable {H:Type} {enc:TypeId×Value→H}
theorem E1 {C:Checked} {os:Os} {f:FuncId} {fn:Func} {s:ChangeSpec} {tb:TypeId} {L:List (String×DataW Unit)} (hX:∀ w w':World,w.heap=w'.heap→laidMetH C.prog L w→laidMetH C.prog L w') (own:ownKnob C.prog.godebug=none) (started:os.Started) (noInit:C.prog.inits.idxOf? f=none) (hfn:C.prog.funcs[f]?=some fn)
  (hl:laidOutB C.prog=true) (hread:fn.params.toList.all (fun t=>C.prog.readableRec t&&decide (t<C.prog.types.size))=true) (hv:s.vars=[]) (hres:fn.resultTypes=#[tb]) (htb:C.prog.underlying tb=some .bool)
  (hs:∀ ds:List (DataW H),ds.length=fn.params.size→s.fn H ds={ results:=[.lit (.bool true)],args:=ds })
  (witness:∃ (w:World) (tape:Tape) (i:Input),w.os=os∧(w.forCall tape i).Shaped C.prog∧i.vars=[]∧Input.okWide C.prog (w.forCall tape i) .any w.heap.size f i ∧
   ((s.pre enc C.prog fn [] false (w.forCall tape i).memory i.args∧laidMetH C.prog L (w.forCall tape i).memory)∧sizedMet enc C.prog fn (OpenSpec.ofChange s) false (w.forCall tape i).memory i.args)∧({}:Assume).holds C.prog (lone (Frame.enter C.prog f i.args .normal) [] (w.forCall tape i)))
  (law:∀ (W:World) (base:Nat) (args:Array Value) (ds:List (DataW H)) (p:List MemPlace),(∀ (j:Nat) t v,fn.params[j]?=some t→args[j]?=some v→Value.okWide C.prog W .any base t v) →
   DataW.TrodAll enc C.prog W 0 (fun _=>true) true fn.params.toList args.toList ds p→(∀ (j:Nat) (t:TypeId) (d:DataW H),fn.params.toList[j]?=some t→ds[j]?=some d→∀ n∈d.weights C.prog t,n≤reachBytes) →
   laidMetH C.prog L W→Calls C.prog f args W (Ret W (.bool true))) :
  ReturnsInHanded {} C os f .any (fun w args=>(s.pre enc C.prog fn [] false w args∧laidMetH C.prog L w)∧sizedMet enc C.prog fn (OpenSpec.ofChange s) false w args) (s.post enc C.prog fn false true false false):=by
 refine returnsInHanded_of_change_and (X:=fun w _=>laidMetH C.prog L w) (fun w w' _ hh h=>hX w w' hh h) own started noInit hfn witness ?_
 intro W base args ds gs before hval hW _ hsz hL _
 have hW':=hW
 obtain⟨p,q,hA,hV,rfl,hfz,hnd⟩:=hW
 rw[hv] at hV
 obtain⟨rfl,rfl⟩:=trodVars_none hV
 have hlen:ds.length=fn.params.size:=by
  have:=GX hA
  simpa using this
 have hlt:∀ x∈p,x.block<W.heap.size:=fun x hx=>hW'.lt x (List.mem_append_left _ hx)
 refine(law W base args ds p hval hA (fun j t d ht hd n hn=>?_) hL).mono fun e W' ⟨he,hb⟩=>?_
 ·have h1:n∈DataW.weightsEach C.prog (fn.params.toList++s.plain.varTypes C.prog) (ds ++ []) :=
   DataW.weights_mem_each (j:=j) (by rw[List.getElem?_append_left (by exact(List.getElem?_eq_some_iff.1 ht).1)];exact ht) (by simpa using hd) n hn
  exact of_decide_eq_true (List.all_eq_true.1 hsz n h1)
 ·refine⟨_,he,HJ (pa:=p) (pv:=[]) hW' (fun b sp hd=>?_) (fun sp hsp=>?_) (fun sp _=>?_) rfl hb.kit ?_⟩
  ·rw[hres,List.append_nil,hs ds hlen];exact trodAll_mk1 (shut_bool htb true)
  ·rw[List.append_nil,hs ds hlen];exact Bh hl hb.kit hread hA hlt (fun x hx=>hsp x (List.mem_append_left _ hx))
  ·rw[hv,List.append_nil,hs ds hlen];rfl
  ·exact ok_one hres rfl (okWide_bool_mk htb true)
end
end Go.Glue
end
section
namespace Go.Proofs.YtjggkpkehdnhiaaGreatDoor.topTracksRow
open Go.ChangeShapes Go.WideShapes Go.ChangeAt Go.RowKit Go.Glue Go.Eng Go.Sky
theorem own_:ownKnob Tryz.prog.godebug=none:=by kernel_rfl
theorem tabs_of {W:World} (h:laidMetH Tryz.prog Rows.topTracksRow.laid W):Ua W:=by
 rw[MakeChecks.laidMetH_plain _ _ _ (by kernel_rfl)] at h
 obtain⟨ps,⟨g0,t0,cs0,f0,p0,q0,hg0,ht0,hv0,hd0,⟨g1,t1,cs1,f1,p1,q1,hg1,ht1,hv1,hd1,⟨g2,t2,cs2,f2,p2,q2,hg2,ht2,hv2,hd2,_,_⟩,_⟩,_⟩,_,_⟩:=h
 exact⟨TZ (zs:=OE) (by kernel_rfl:Tryz.prog.globalNamed "math._cos"=some 1) (by kernel_rfl) Tryz.underlying286 Tryz.underlying215 (by kernel_rfl) (by kernel_rfl) ⟨g1,t1,cs1,f1,p1,hg1,ht1,hv1,hd1⟩ (by decide),TZ (zs:=OD) (by kernel_rfl:Tryz.prog.globalNamed "math._sin"=some 2) (by kernel_rfl) Tryz.underlying286 Tryz.underlying215 (by kernel_rfl) (by kernel_rfl) ⟨g0,t0,cs0,f0,p0,hg0,ht0,hv0,hd0⟩ (by decide)⟩
theorem door_met (os:Os) (args:Array Value):laidMetH Tryz.prog Rows.topTracksRow.laid ((World.doorLaid Tryz.prog 400 os).forCall (fun _ _=>0) ⟨#[],args,[]⟩).memory :=
 laidMetH_of_parts3 (fuel:=8) (laidMet_of_run' 8 (by kernel_rfl) (by kernel_rfl)) (by kernel_rfl) (by kernel_rfl)
set_option maxRecDepth 100000 in
theorem lifted (os:Os) (started:os.Started) (H:Type) (enc:TypeId×Value→H) :
  ReturnsInHanded {} Tryz.checked os 3 .any (fun w args=>(Rows.topTracksSpec.pre enc Tryz.prog Tryz.f3 [] false w args∧laidMetH Tryz.prog Rows.topTracksRow.laid w)∧sizedMet enc Tryz.prog Tryz.f3 (OpenSpec.ofChange Rows.topTracksSpec) false w args) (Rows.topTracksSpec.post enc Tryz.prog Tryz.f3 false true false false):=by
 refine E1 (C:=Tryz.checked) (L:=Rows.topTracksRow.laid) (tb:=4) (fun _ _ hh h=>h.of_heap hh) own_ started (by kernel_rfl) Tryz.func3 (by kernel_rfl) (by kernel_rfl) rfl (by kernel_rfl) Tryz.underlying4 (fun ds h=>by match ds,h with | [_,_],_=>rfl)
  (ChangeSpec.witness_shaped (enc:=enc) (C:=Tryz.checked) (os:=os) (X:=fun w _=>laidMetH Tryz.prog Rows.topTracksRow.laid w) false (World.doorLaid Tryz.prog 400 os) #[.slice none 0 0,.int .i64 0] 8 rfl (World.shaped_of_RefB (by kernel_rfl) (by kernel_rfl)) (by kernel_rfl) (by kernel_rfl) (by kernel_rfl) (door_met os _)) ?_
 intro W base args ds p hval0 hA0 hw0 hL
 have hval:∀ (j:Nat) t v,Tryz.f3.params[j]?=some t→args[j]?=some v→Value.okWide Tryz.prog W .any base t v:=hval0
 have hA:DataW.TrodAll enc Tryz.prog W 0 (fun _=>true) true Tryz.f3.params.toList args.toList ds p:=hA0
 have hw:∀ (j:Nat) (t:TypeId) (d:DataW H),Tryz.f3.params.toList[j]?=some t→ds[j]?=some d→∀ n∈d.weights Tryz.prog t,n≤reachBytes:=hw0
 clear hval0 hA0 hw0
 rw[Tryz.params3] at hA hval hw
 obtain⟨v0,vs0,d0,ds0,p0,q0,hargs,rfl,rfl,h0,s0⟩:=trodAll_cons hA
 obtain⟨v1,vs1,d1,ds1,p1,q1,rfl,rfl,rfl,h1,s1⟩:=trodAll_cons s0
 obtain⟨rfl,rfl,rfl⟩:=trodAll_nil s1
 obtain rfl:args=#[v0,v1]:=by cases args;simp_all
 obtain⟨A0,c0,x0,rfl,r0_,l0_,k0⟩:=LF (LE Tryz.underlying3) Tryz.underlying22 (by kernel_rfl:Tryz.prog.cellsOf 3=1) (by decide) rfl (Nat.le_of_ble_eq_true (by kernel_rfl)) (hval 0 22 v0 rfl rfl) h0 (hw 0 _ _ rfl rfl)
 obtain⟨x1,rfl,k1⟩:=Sv Tryz.underlying3 (hval 1 3 v1 rfl rfl) h1
 have e:=HH x0 x1 (by have:=r0_.short;rw[List.length_map] at this;exact this) k0 k1
 have r:=VL A0 c0 x0 x1 W r0_ l0_ (tabs_of hL)
 rw[e] at r
 exact r
end Go.Proofs.YtjggkpkehdnhiaaGreatDoor.topTracksRow
namespace Go.Proofs.YtjggkpkehdnhiaaGreatDoor
theorem topTracks_holds:Rows.TopTracksSaid :=
 OpenClaim.holds_of_wide 3 Tryz.f3 rfl rfl rfl rfl rfl rfl rfl ⟨rfl,rfl,rfl,rfl,rfl⟩ rfl rfl rfl rfl rfl (by kernel_rfl) Tryz.func3 (by kernel_rfl)
  (of_decide_eq_true (by kernel_rfl)) (by unfold Func.isWrapper;rw[if_neg (of_decide_eq_false (by kernel_rfl))];exact⟨rfl,rfl⟩)
  (fun os started H enc _=>topTracksRow.lifted os started H enc)
theorem topTracks_card:Rows.TopTracksCardSaid :=
 Claim7.holds_tied_plain_at .later [] [.data,.data,.data] true (true, "74d98562085f6681f41be128b2f0adf57d437f7a8ab0c20d8d444da80047e06a") false
  topTracks_holds (fun _ h=>by cases h) (by kernel_rfl) (fun _ h=>by cases h) topTracks_row_tie rfl ⟨rfl,rfl⟩ (by kernel_rfl) rfl
  (fun f fn hf hfn=>by
   obtain rfl:f=3:=Option.some.inj ((show Tryz.prog.funcNamed "skyway/skywaytop.TopTracks"=some 3 by kernel_rfl).symm.trans hf) |>.symm
   obtain rfl:fn=Tryz.f3:=(Option.some.inj (Tryz.func3.symm.trans hfn)).symm
   exact⟨by kernel_rfl,fun j t ht=>by
    rw[Tryz.params3] at ht
    rcases j with _|j
    ·have h3:t=22:=by simpa using ht.symm
     subst h3
     exact(show Tryz.prog.wantsStandIn 22=false by kernel_rfl)
    rcases j with _|j
    ·have h3:t=3:=by simpa using ht.symm
     subst h3
     exact(show Tryz.prog.wantsStandIn 3=false by kernel_rfl)
    simp at ht⟩)
  (by kernel_rfl)
end Go.Proofs.YtjggkpkehdnhiaaGreatDoor
end
