/- Proves the given statement of this seat that YtjggkpkehdnhiaaGreatDoorRowTopPairs names, from the texts before it; no condition is added. -/
import Derived.Test.YtjggkpkehdnhiaaGreatDoorBp19
import Derived.Test.YtjggkpkehdnhiaaGreatDoorBp02
import Derived.Test.YtjggkpkehdnhiaaGreatDoorBp11
import Derived.Lib.LaidTab
import Derived.LaidMore
import Derived.LaidLaws
import Derived.MakeChecks
import Derived.LaidHandle
import Derived.OpenShut
import Derived.Test.YtjggkpkehdnhiaaGreatDoorRows
import Derived.Test.YtjggkpkehdnhiaaGreatDoorTie
import Derived.Test.YtjggkpkehdnhiaaGreatDoorCards
set_option maxRecDepth 100000
section
namespace Go.Sky
open Go Go.Eng Go.Glue
def QZ (f:Zq) (r:Int):List Zd:=[Xf 0 f r,Xf 200 f r]
theorem Si {f:Zq} (hf:Jy f) (r:Int):QZ f r=[⟨⟨0,QC f 0,f.height⟩,r,200⟩,⟨⟨200,QC f 200,f.height⟩,r,200⟩]:=by
 unfold QZ Xf
 rw[← H7 hf (k:=0) (by decide),← H7 hf (k:=200) (by decide)]
 rfl
theorem BB {f:Zq} (hf:Jy f) {k:Nat} (hk:k≤200):Yj (QC f k)=0:=by
 have w:=Uc hf hk
 exact HH (by unfold PIn;omega)
theorem Rr {f:Zq} (hf:Jy f) {r:Int} (hr:0≤r∧r≤3000):YK (QZ f r)=0:=by
 have hh:=hf.h
 rw[Si hf]
 unfold YK Qe Qe Qe
 dsimp only
 rw[BB hf (by decide),BB hf (by decide)]
 rw[show ((((((decide (f.height<0))||(decide (f.height>60000)))||(decide (r<0)))||(decide (r>1000000)))||(decide ((200:Int)<0)))||(decide ((200:Int)>60000)))=false by simp;omega]
 rfl
theorem CY {f:Zq} (hf:Jy f):Q8 (QC f 0) (QC f 200) 16 200=(QC f 16,0):=by
 have w0:=Uc hf (k:=0) (by decide)
 have w2:=Uc hf (k:=200) (by decide)
 have hx:=hf.x;have hy:=hf.y;have vx:=hf.vx;have vy:=hf.vy
 unfold Q8
 dsimp only
 rw[BB hf (by decide),BB hf (by decide)]
 unfold QC
 dsimp only
 rw[show decide ((200:Int)≤0)=false from rfl,show ((decide ((200:Int)>200000))||(decide ((16:Int)<0))||(decide ((16:Int)>200)))=false from rfl,show ((0:Int) != 0)=false from rfl]
 simp only[cond_false]
 rw[show f.at_.X+f.speed.X*((200:Nat):Int)-(f.at_.X+f.speed.X*((0:Nat):Int))=200*f.speed.X by omega,show f.at_.Y+f.speed.Y*((200:Nat):Int)-(f.at_.Y+f.speed.Y*((0:Nat):Int))=200*f.speed.Y by omega]
 rw[Zt (x:=200*f.speed.X) (by omega),Zt (x:=200*f.speed.Y) (by omega),Zt (x:=200*f.speed.X*16) (by omega),Zt (x:=200*f.speed.Y*16) (by omega),JK (by decide) (by omega),JK (by decide) (by omega)]
 dsimp only
 rw[show 200*f.speed.X*16/200=f.speed.X*16 by omega,show 200*f.speed.Y*16/200=f.speed.Y*16 by omega,Zt (by omega),Zt (by omega)]
 rw[show f.at_.X+f.speed.X*((0:Nat):Int)+f.speed.X*16=f.at_.X+f.speed.X*((16:Nat):Int) by omega,show f.at_.Y+f.speed.Y*((0:Nat):Int)+f.speed.Y*16=f.at_.Y+f.speed.Y*((16:Nat):Int) by omega]
def WF (f:Zq) (r:Int):Zd:=⟨⟨16,QC f 16,f.height⟩,r,200⟩
theorem MM {f:Zq} (hf:Jy f) {r:Int} (hr:0≤r∧r≤3000):JV (QZ f r) 16=(WF f r,0):=by
 have hh:=hf.h
 have hc:=Rr hf hr
 have hb:∀ p q:P,∀ h s:Int,Xy [⟨⟨0,p,h⟩,s,200⟩,⟨⟨200,q,h⟩,s,200⟩] 16=(1,false):=fun p q h s=>by kernel_rfl
 unfold JV
 rw[hc,Si hf]
 dsimp only
 rw[show ((0:Int) != 0)=false from rfl,cond_false]
 unfold GW
 rw[hb]
 unfold Vh
 dsimp only[aI,dQ]
 rw[show w64 ((1:Int)-1)=0 from rfl]
 simp only[Int.toNat_one,Int.toNat_zero,cF,bG,cV,dD]
 rw[show w64 ((16:Int)-0)=16 from rfl,show w64 ((200:Int)-0)=200 from rfl,show w64 (w64 0*16)=0 from rfl,CY hf,show YL 0 200=(0,0) by kernel_rfl,show X1 0 200=(0,0) by kernel_rfl]
 simp only[Int.add_zero]
 rw[Zt (x:=f.height) (by omega),Zt (x:=r) (by omega),show w64 200=200 from rfl]
 rfl
section
variable {f:Zq} {x:Za} {r:Int}
theorem Ee (hf:Jy f) (h:Has f x 16) (hr:0≤r∧r≤3000):Qx x.Track (QZ f r)=(WF f r,true)∧0≤ZN x.Track.At (WF f r).Node.At∧ZN x.Track.At (WF f r).Node.At≤400000000:=by
 have ht:=h.fol.time
 have hR:=h.fol.inn.1.2.2.2.2
 have td:=h.fol.rad
 have w:=Uc hf (k:=16) (by decide)
 have wi:(QC f 16).In:=⟨by omega,by omega,by omega,by omega⟩
 have b:=h.knows.1
 have hh:=h.fol.high.1
 have fh:=hf.h
 have sq:=GN h.fol.inn.1.2.1 wi
 refine⟨?_,?_,?_⟩
 ·unfold Qx
  rw[show x.Track.Time=16 from ht,MM hf hr]
  dsimp only
  rw[show ((0:Int)==0)=true from rfl,cond_true]
  unfold WF
  dsimp only
  rw[hh,Zt (x:=r+x.Track.Radius) (by omega),within_iff wi h.fol.inn.1.2.1 (by omega),dD]
  have b2:=(b.neg.mono (S:=r+x.Track.Radius) (by omega)).2
  rw[show -(x.Track.At.X-(QC f 16).X)=(QC f 16).X-x.Track.At.X by omega,show -(x.Track.At.Y-(QC f 16).Y)=(QC f 16).Y-x.Track.At.Y by omega] at b2
  rw[decide_eq_true ⟨by omega,b2⟩]
  rfl
 ·exact sq.2.1
 ·show ZN x.Track.At (QC f 16)≤_
  rw[sq.1]
  have b2:=(b.mono (S:=20000) (by omega)).2
  omega
theorem Rt (hf:Jy f) (h:Has f x 16) (hr:0≤r∧r≤3000):(Ql x.Track (QZ f r)).2=0∧((Ql x.Track (QZ f r)).1==2)=false:=by
 have ht:=h.fol.time
 have hi:=h.fol.inn.1
 have hR:=hi.2.2.2.2
 have td:=h.fol.rad
 have w:=Uc hf (k:=16) (by decide)
 have wi:(QC f 16).In:=⟨by omega,by omega,by omega,by omega⟩
 have b:=h.knows.1
 have hh:=h.fol.high.1
 have hp:Jb x.Track=true:=by
  unfold Jb
  dsimp only
  have hz:Track.In ⟨x.Track.ID,x.Track.State,x.Track.Time,x.Track.At,x.Track.Speed,x.Track.Height,x.Track.Rate,x.Track.Radius,0,x.Track.Hits,x.Track.Misses⟩:=⟨hi.1,hi.2.1,hi.2.2.1,⟨(show (-1:Int)≤0 by decide),(show (0:Int)≤4095 by decide)⟩,hi.2.2.2.2⟩
  rw[G7 hz]
  rfl
 unfold Ql Kw
 dsimp only
 rw[hp,show x.Track.Time=16 from ht,MM hf hr,cD,cond_false]
 dsimp only
 rw[show ((0:Int) != 0)=false from rfl,cond_false]
 refine⟨rfl,?_⟩
 unfold Jh WF
 dsimp only
 rw[hh,Zt (x:=r+x.Track.Radius) (by omega),within_iff hi.2.1 wi (by omega),dD,decide_eq_true ⟨by omega,(b.mono (S:=r+x.Track.Radius) (by omega)).2⟩]
 rw[show ((!true)||(decide ((Vu (w64 0) (w64 0))>(w64 (200+100)))))=false by decide,cond_false]
 cases (ZX x.Track.At (QC f 16) (w64 (r-x.Track.Radius))&&(decide ((Vu (w64 0) (w64 0))≤(w64 (200-100))))) <;> rfl
end
def cell (C:List Int) (t:Track) (k:Nat) (tb:List Zd):Int:=if (Qx t tb).2=true∧t.Code=C[k]?.getD 0 then w64 ((ZN t.At (Qx t tb).1.Node.At).tdiv 10000) else -1
def cells (C:List Int) (t:Track):List (List Zd)→Nat→List Int
 | [],_=>[]
 | tb::xs,k=>cell C t k tb::cells C t xs (k+1)
theorem VU (C:List Int) (t:Track):∀ (xs:List (List Zd)) (k:Nat),(cells C t xs k).length=xs.length
 | [],_=>rfl
 | tb::xs,k=>by unfold cells;rw[aI,aI,VU C t xs (k+1)]
theorem Ru (C:List Int) (t:Track):∀ (xs:List (List Zd)) (k j:Nat),(cells C t xs k)[j]?=xs[j]?.map (cell C t (k+j))
 | [],_,_=>rfl
 | tb::xs,k,0=>rfl
 | tb::xs,k,j+1=>by
  unfold cells
  rw[bG,bG,Ru C t xs (k+1) j,show k+1+j=k+(j+1) by omega]
theorem Bc {C:List Int} {t:Track} (hc:t.Code ≠ -1):∀ (xs:List (List Zd)) (k:Nat) (row:List Int),row.length=k+xs.length→Y4 C t xs k row=row.take k++cells C t xs k
 | [],k,row,h=>by
  unfold Y4 cells
  rw[bU,cA (by rw[h];exact aU _)]
 | tb::xs,k,row,h=>by
  rw[aI] at h
  have key:∀ v:Int,v=cell C t k tb→Y4 C t xs (k+1) (row.set k v)=row.take k++cells C t (tb::xs) k:=fun v hv=>by
   rw[Bc hc xs (k+1) _ (by rw[aL];omega),Df v (by omega),bT,hv];rfl
  unfold Y4
  simp only
  unfold cell at key
  cases h1:(Qx t tb).2
  ·rw[eF,cond_true];exact key _ (by rw[if_neg (by rw[h1];simp)])
  ·rw[cD,cond_false,show (t.Code != (-1))=true by simpa using hc,cond_true]
   by_cases h3:t.Code=C[k]?.getD 0
   ·rw[show (t.Code != (C[k]?.getD 0))=false by simpa using h3,cond_false,show (t.Code==(-1))=false by simpa using hc,cond_false]
    exact key _ (by rw[if_pos ⟨h1,h3⟩])
   ·rw[show (t.Code != (C[k]?.getD 0))=true by simpa using h3,cond_true]
    exact key _ (by rw[if_neg (fun h=>h3 h.2)])
theorem DY {T:List (List Zd)} {C:List Int}:∀ (xs:List Track) (k:Nat) (out:List (List Int)),(∀ t∈xs,Yt t=0∧t.Code ≠ -1)→Xz T C xs k out=.inl (out++xs.map fun t=>cells C t T 0)
 | [],_,out,_=>by unfold Xz;simp
 | t::xs,k,out,h=>by
  have h0:=h t (aJ ..)
  unfold Xz YB
  simp only
  rw[h0.1,show ((0:Int) != 0)=false from rfl,cond_false,Bc h0.2 T 0 _ (by simp),DY xs (k+1) _ fun t ht=>h t (aG _ ht),List.take_zero,bK]
  simp
theorem DZ {C:List Int}:∀ (xs:List (List Zd)) (k:Nat),(∀ t∈xs,YK t=0)→(∀ j:Nat,0≤C[j]?.getD 0∧C[j]?.getD 0≤4095)→QQ C xs k=.inl ()
 | [],_,_,_=>rfl
 | t::xs,k,h,hc=>by
  have c:=hc k
  unfold QQ
  simp only
  rw[h t (aJ ..),show ((0:Int) != 0)=false from rfl,cond_false,decide_eq_false (by omega),cond_false,decide_eq_false (by omega),cond_false]
  exact DZ xs (k+1) (fun t ht=>h t (aG _ ht)) hc
theorem Sj {T:List (List Zd)}:∀ (ks:List Nat) (k:Nat) (seen:List Bool),ks.Nodup→(∀ j∈ks,j<T.length∧seen[j]?.getD false=false)→Qk T (ks.map fun k:Nat=>(k:Int)) k seen=.inl (ks.foldl (fun u k=>u.set k true) seen)
 | [],_,_,_,_=>rfl
 | j::ks,k,seen,hn,h=>by
  rw[gA] at hn
  have h0:=h j (aJ ..)
  rw[dT]
  unfold Qk
  rw[show ((decide ((j:Int)<(-1)))||(decide ((j:Int)≥(T.length:Int))))=false by simp;omega,cond_false,decide_eq_true (show (j:Int)≥0 by omega),cond_true,aO,h0.2,cond_false,cond_true]
  exact Sj ks (k+1) _ hn.2 fun i hi=>⟨(h i (aG _ hi)).1,by
   rw[dO (fun e=>hn.1 (by rw[e];exact hi))];exact(h i (aG _ hi)).2⟩
theorem Sm {time:Int} {seen:List Bool}:∀ (xs:List (List Zd)) (k:Nat),(∀ j:Nat,k≤j→j<k+xs.length→seen[j]?.getD false=true)→QD time seen xs k []=[]
 | [],_,_=>rfl
 | t::xs,k,h=>by
  rw[aI] at h
  have ih:=Sm (time:=time) (seen:=seen) xs (k+1) fun j h1 h2=>h j (by omega) (by omega)
  unfold QD
  simp only
  rw[h k (aU _) (by omega),cD,cond_false,ih]
  cases ((JV t time).2==0) <;> rfl
end Go.Sky
end
section
namespace Go.Sky
open Go Go.Eng Go.Glue
theorem Rw (r:Int):∀ (xs:List Zq) (k:Nat) (T:List (List Zd)) (C:List Int),XH r xs k T C=(T++xs.map (fun f=>QZ f r),C++xs.map fun f=>f.code)
 | [],_,T,C=>by unfold XH;simp
 | f::xs,k,T,C=>by
  unfold XH
  simp only
  rw[Rw r xs (k+1)]
  simp[QZ]
theorem Rx:∀ (xs:List Za) (k:Nat) (out:List Track),XI xs k out=out++xs.map fun x=>x.Track
 | [],_,out=>by unfold XI;simp
 | x::xs,k,out=>by unfold XI;rw[Rx xs (k+1)];simp
theorem Ry {r2:Zi×Int×Bool} (h2:r2.2.1=16) {r:Int} (hr:0≤r∧r≤3000) {fs:List Zq} (hfs:∀ f∈fs,Jy f) {tr:List Za}:∀ (ks:List Nat) (i:Nat),
  (∀ j k,ks[j]?=some k→∃ f x,fs[k]?=some f∧tr[i+j]?=some x∧Has f x 16) →
  XJ r2 (fs.map fun f=>QZ f r) (fs.map fun f=>f.code) (tr.map fun x=>x.Track) (ks.map fun k:Nat=>(k:Int)) i=.inl ()
 | [],_,_=>rfl
 | k::ks,i,h=>by
  obtain⟨f,x,e1,e2,hx⟩:=h 0 k rfl
  rw[bZ] at e2
  have hf:=hfs f (aR e1)
  have oc:=Rt hf hx hr
  rw[dT]
  unfold XJ
  simp only
  have t1:(fs.map fun f=>f.code)[k]?.getD 0=f.code:=by rw[aT,e1];rfl
  have t2:(fs.map fun f=>QZ f r)[k]?.getD []=QZ f r:=by rw[aT,e1];rfl
  have t3:(tr.map fun x=>x.Track)[i]?.getD Track.zero=x.Track:=by rw[aT,e2];rfl
  rw[decide_eq_false (show ¬ (k:Int)<0 by omega),cond_false,aO,t1,t2,t3]
  rw[h2,show (f.code != x.Track.Code)=false by rw[hx.fol.code];simp,cond_false,MM hf hr,oc.1,oc.2]
  rw[show (((0:Int) != 0)||((0:Int) != 0))=false from rfl]
  simp only[cond_false]
  exact Ry h2 hr hfs ks (i+1) fun j k' hj=>by
   rw[show i+1+j=i+(j+1) by omega]
   exact h (j+1) k' (by rw[bG];exact hj)
theorem F3 (x0:List Int) (x1:Int) (_s0:x0.length<4611686018427387904) (_k0:∀ a∈x0,Go.Glue.I64 a) (_k1:Go.Glue.I64 x1):Xl x0 x1=true:=by
 have hfl:=Ea x0
 unfold Xl
 dsimp only
 rw[Cb,cD,Bool.false_or]
 generalize Xk x0=fs at hfl
 obtain⟨t,gs,e,p,q,q2⟩:=OZ hfl (n:=5) (by decide)
 rw[show UL fs 5=(t,((4*(5-1):Nat):Int),true) from e]
 generalize hr:Yq x1 0 3000=r
 have br:=UH hr (by decide) (by decide) (by decide)
 have g:=hfl.perm p
 have qa:KV (fun f x=>Has f x.f 16∧CW x) gs t.all:=q.all
 rw[Rw,FN]
 unfold YB
 simp only[cD,cond_false,bK]
 rw[Rx,bK]
 obtain⟨tr,htr⟩:∃ tr,tr=t.all.map (fun x=>x.f):=⟨_,rfl⟩
 rw[← htr]
 have ha:KV (fun f x=>Has f x 16) gs tr:=by rw[htr];exact qa.mapr fun _ _ _ _ h=>h.1
 have hlen:tr.length=fs.length:=by rw[ha.len,p.length_eq]
 have hl3:=hfl.len
 obtain⟨idx,s5⟩:∃ idx:Za→Nat,idx=fun x=>fs.findIdx (fun f=>f.code==x.Track.Code):=⟨_,rfl⟩
 have own:∀ f x,x∈tr→f∈gs→Has f x 16→fs[idx x]?=some f:=fun f x _ hf hx=>by
  have hm:f∈fs:=p.mem_iff.1 hf
  have hlt:idx x<fs.length:=by
   rw[s5]
   exact List.findIdx_lt_length_of_exists ⟨f,hm,by rw[hx.fol.code];simp⟩
  have hcd:(fs[idx x]).code=x.Track.Code:=by
   subst s5
   have:=List.findIdx_getElem (xs:=fs) (p:=fun f=>f.code==x.Track.Code) (w:=hlt)
   simpa using this
  rw[aM hlt,G6 (c:=fun f=>f.code) hfl.code (cQ hlt) hm (by rw[hcd,hx.fol.code])]
 have sw:∀ j:Nat,0≤(fs.map fun f=>f.code)[j]?.getD 0∧(fs.map fun f=>f.code)[j]?.getD 0≤4095:=fun j=>by
  rw[aT]
  cases hj:fs[j]? with
  | none=>exact⟨(by decide:(0:Int)≤0),(by decide:(0:Int)≤4095)⟩
  | some f=>have:=(VT (hfl.fly f (aR hj))).2;exact this
 have ar:XG (fs.map fun f=>QZ f r) (fs.map fun f=>f.code)=0:=by
  unfold XG
  rw[aD,aD,decide_eq_false (by omega),cond_false,show ((fs.length:Int) != (fs.length:Int))=false by simp,cond_false,DZ _ 0 (fun tb htb=>by
   obtain⟨f,hf,rfl⟩:=bD.1 htb;exact Rr (hfl.fly f hf) br) sw]
  rfl
 have htrk:∀ y∈tr.map (fun x=>x.Track),Yt y=0∧y.Code ≠ -1:=fun y hy=>by
  obtain⟨x,hx,rfl⟩:=bD.1 hy
  obtain⟨f,hf,h⟩:=ha.right hx
  have c:=(VT (g.fly f hf)).2
  exact⟨G7 h.fol.inn.1,by rw[h.fol.code];omega⟩
 have ug:∀ x∈tr,SE (cells (fs.map fun f=>f.code) x.Track (fs.map fun f=>QZ f r) 0) (idx x)∧∀ c∈cells (fs.map fun f=>f.code) x.Track (fs.map fun f=>QZ f r) 0,-1≤c∧c≤1099511627776:=fun x hx=>by
  obtain⟨f,hf,h⟩:=ha.right hx
  have hi:=own f x hx hf h
  have hff:=g.fly f hf
  have of:=Ee hff h br
  have hlt:=(aK.1 hi).1
  have gm:∀ j,j<fs.length→∃ f',fs[j]?=some f'∧gt (cells (fs.map fun f=>f.code) x.Track (fs.map fun f=>QZ f r) 0) j=cell (fs.map fun f=>f.code) x.Track j (QZ f' r):=fun j hj=>by
   refine⟨fs[j],aM hj,?_⟩
   unfold gt
   rw[Ru,aT,aM hj,bY]
   rfl
  have ue:cell (fs.map fun f=>f.code) x.Track (idx x) (QZ f r)=ZN x.Track.At (WF f r).Node.At/10000:=by
   unfold cell
   rw[of.1,if_pos ⟨rfl,by rw[aT,hi];exact h.fol.code⟩,UA 10000 of.2.1,Zt (by omega)]
  have au:∀ j f',fs[j]?=some f'→j≠idx x→cell (fs.map fun f=>f.code) x.Track j (QZ f' r)=-1:=fun j f' hj hne=>by
   unfold cell
   refine if_neg fun hh=>hne ?_
   rw[aT,hj] at hh
   exact UI hfl.code (a:=f'.code) (by rw[aT,hj];rfl) (by rw[aT,hi];show some f.code=some f'.code;rw[← h.fol.code];exact congrArg some hh.2)
  refine⟨⟨by rw[VU,aD];exact hlt,?_,fun j hj hne=>?_⟩,fun c hc=>?_⟩
  ·obtain⟨f',e1,e2⟩:=gm _ hlt
   rw[hi] at e1;injection e1 with e1;subst e1
   rw[e2,ue];omega
  ·rw[VU,aD] at hj
   obtain⟨f',e1,e2⟩:=gm j hj
   rw[e2,au j f' e1 hne];decide
  ·obtain⟨j,hj⟩:=cW hc
   have hjl:=(aK.1 hj).1
   rw[VU,aD] at hjl
   obtain⟨f',e1,e2⟩:=gm j hjl
   unfold gt at e2
   rw[hj,cV] at e2
   rw[e2]
   by_cases hne:j=idx x
   ·subst hne
    rw[hi] at e1;injection e1 with e1;subst e1
    rw[ue];omega
   ·rw[au j f' e1 hne];decide
 have fp:YX (tr.map fun x=>x.Track) (fs.map fun f=>QZ f r) (fs.map fun f=>f.code)=((tr.map fun x=>x.Track).map fun t=>cells (fs.map fun f=>f.code) t (fs.map fun f=>QZ f r) 0,0):=by
  unfold YX
  rw[ar,aD,decide_eq_false (by omega),cond_false,DY _ 0 [] htrk,bK]
  rfl
 have hck:Yn ((tr.map fun x=>x.Track).map fun t=>cells (fs.map fun f=>f.code) t (fs.map fun f=>QZ f r) 0) 2147483648=0:=by
  have hr1:∀ y∈(tr.map fun x=>x.Track).map fun t=>cells (fs.map fun f=>f.code) t (fs.map fun f=>QZ f r) 0,y.length=fs.length:=fun y hy=>by
   obtain⟨t,_,rfl⟩:=bD.1 hy
   rw[VU,aD]
  unfold Yn
  rw[decide_eq_false (by rw[aD,aD];omega),cond_false,NF (n:=fs.length) (by omega) (fun hne=>?_) _ 0 (fun y hy=>⟨hy,hr1 y hy,fun c hc=>?_⟩)]
  ·rfl
  ·cases hm:tr with
   | nil=>rw[hm] at hne;exact absurd rfl hne
   | cons a b=>simp[VU]
  ·obtain⟨t,ht,rfl⟩:=bD.1 hy
   obtain⟨x,hx,rfl⟩:=bD.1 ht
   exact(ug x hx).2 c hc
 have hnd:(tr.map idx).Nodup:=by
  have e1:((tr.map idx).map fun k=>(fs[k]?.getD Zq.zero).code)=gs.map fun f=>f.code:=by
   rw[eL,ha.maps (f:=fun f=>f.code) (g:=fun x=>x.Track.Code) fun _ _ hx=>hx.fol.code.symm]
   refine dR fun x hx=>?_
   obtain⟨f,hf,h⟩:=ha.right hx
   show (fs[idx x]?.getD Zq.zero).code=_
   rw[own f x hx hf h,cV,h.fol.code]
  have hn2:=g.code
  rw[← e1] at hn2
  exact eW _ (fun a b hab e=>hab (by rw[e])) hn2
 have s6:=LI (ks:=tr.map idx) hck (by
  rw[eL]
  exact Ds tr fun x hx=>(ug x hx).1) hnd
 have hb0:(Y5 ((tr.map fun x=>x.Track).map fun t=>cells (fs.map fun f=>f.code) t (fs.map fun f=>QZ f r) 0) 2147483648).2.2=0:=by
  obtain⟨to,e,_⟩:=GQ hck
  rw[e]
 have hpb:QJ (tr.map fun x=>x.Track) (fs.map fun f=>QZ f r) (fs.map fun f=>f.code)=((tr.map idx).map fun k:Nat=>(k:Int),0):=by
  unfold QJ
  rw[fp]
  dsimp only
  rw[show ((0:Int) != 0)=false from rfl,cond_false,s6,hb0]
 rw[hpb]
 dsimp only
 rw[aD,aD,aD,hlen,show ((((0:Int) != 0)||((fs.length:Int) != (fs.length:Int)))||((fs.length:Int) != (fs.length:Int)))=false by simp,cond_false]
 rw[Ry (r2:=(t,((4*(5-1):Nat):Int),true)) rfl br hfl.fly (tr.map idx) 0 (fun j k hj=>by
  rw[aT] at hj
  obtain⟨x,hx,rfl⟩:=Option.map_eq_some_iff.1 hj
  obtain⟨f,hf,h⟩:=ha.right (aR hx)
  exact⟨f,x,own f x (aR hx) hf h,by rw[bY];exact hx,h⟩)]
 have av:Xe ((tr.map idx).map fun k:Nat=>(k:Int)) (fs.map fun f=>QZ f r) (fs.map fun f=>f.code) ((4*(5-1):Nat):Int)=([],0):=by
  unfold Xe
  rw[ar,aD,aD,decide_eq_false (by omega),cond_false]
  dsimp only
  rw[show ((0:Int) != 0)=false from rfl,cond_false,Sj (tr.map idx) 0 _ hnd (fun j hj=>by
   obtain⟨x,hx,rfl⟩:=bD.1 hj
   obtain⟨f,hf,h⟩:=ha.right hx
   refine⟨by rw[aD];exact(aK.1 (own f x hx hf h)).1,?_⟩
   rw[dP];split <;> rfl)]
  unfold YB
  simp only[Sum.elim_inl]
  rw[Sm _ 0 fun j _ hj=>?_]
  refine Dt _ _ j (by rw[bA,aD,aO];rw[aD] at hj;omega) (.inl ?_)
  rw[aD] at hj
  have ej:=aM (show j<fs.length by omega)
  obtain⟨x,hx,h⟩:=ha.left (p.mem_iff.2 (cQ (show j<fs.length by omega)))
  have:=own _ x hx (p.mem_iff.2 (cQ (show j<fs.length by omega))) h
  refine bD.2 ⟨x,hx,UI hfl.code (a:=(fs[j]).code) (by rw[aT,this];rfl) (by rw[aT,ej];rfl)⟩
 simp only[Sum.elim_inl]
 rw[av]
 rfl
end Go.Sky
end
section
namespace Go.Glue
open Go.ChangeShapes Go.WideShapes Go.ChangeAt Go.RowKit Go.Eng
theorem Ef {H:Type} {enc:TypeId×Value→H} {P:Program} {w:World} {base:Nat} {sp:Nat→Bool} {held:Bool} {fuel:Nat} {t:TypeId} {cs:List Value} {x:DataW H×List MemPlace}
  (ht:P.underlying t=some (.float .f64)) (h:DataW.trod enc P w base sp held fuel t cs=some x):∃ n,cs=[.float .f64 n]∧x=(.lit (.float .f64 n),[]):=by
 cases fuel with
 | zero=>simp[DataW.trod] at h
 | succ n =>
  unfold DataW.trod at h
  rw[ht] at h
  split at h <;> simp_all
theorem Pq {H:Type} {enc:TypeId×Value→H} {P:Program} {w:World} {base:Nat} {sp:Nat→Bool} {held:Bool} {fuel:Nat} {t e:TypeId} {n:Nat} {cs:List Value} {zs:List Nat} {p:List MemPlace}
  (ht:P.underlying t=some (.array n e)) (he:P.underlying e=some (.float .f64)) (hce:P.cellsOf e=1) (hct:P.cellsOf t=n)
  (h:DataW.trod enc P w base sp held fuel t cs=some (.agg (zs.map fun z=>(DataW.lit (.float .f64 z):DataW H)),p)):∀ (i:Nat) (z:Nat),zs[i]?=some z→cs[i]?=some (Value.float .f64 z):=by
 cases fuel with
 | zero=>simp[DataW.trod] at h
 | succ fuel =>
  simp only[DataW.trod,ht,hce,hct,Nat.mul_one] at h
  split at h
  ·obtain⟨xs,hm,hx⟩:=Option.map_eq_some_iff.1 h
   intro i z hz
   have e1:xs.map (·.1)=zs.map fun z=>(DataW.lit (.float .f64 z):DataW H):=by simpa using congrArg Prod.fst hx
   have hl:=Lib.mapM_length hm
   rw[List.length_range] at hl
   have l2:xs.length=zs.length:=by simpa using congrArg List.length e1
   have hi:i<n:=by have:=(aK.1 hz).1;omega
   obtain⟨b,hb,hf⟩:=Lib.mapM_at hm i i (by simp[hi])
   obtain⟨y,hc,rfl⟩:=Ef he hf
   have h1:cs[i]?=some (Value.float .f64 y):=by
    have h:=congrArg (fun l=>l[0]?) hc
    rw[eC (by decide),cN,bZ] at h
    exact h
   have h2:(xs.map (·.1))[i]?=some (DataW.lit (.float .f64 y):DataW H):=by simp[hb]
   rw[e1] at h2
   simp[hz] at h2
   rw[h1,h2]
  ·cases h
theorem Eg {P:Program} {W:World} {name:String} {zs:List Nat} {g:Nat} {t e:TypeId} {n:Nat} (hg:P.globalNamed name=some g) (hty:(P.globals[g]?).map (·.type)=some t) (ht:P.underlying t=some (.array n e)) (he:P.underlying e=some (.float .f64)) (hce:P.cellsOf e=1) (hct:P.cellsOf t=n)
  (h:∃ (g':Nat) (t':TypeId) (cs:Array Value) (fuel:Nat) (p:List MemPlace),P.globalNamed name=some g'∧(P.globals[g']?).map (·.type)=some t'∧W.var? P name=some cs∧DataW.trod (H:=Unit) (fun _=>()) P W 0 (fun _=>true) false fuel t' cs.toList=some (.agg (zs.map fun z=>(DataW.lit (.float .f64 z):DataW Unit)),p))
  (h0:0<zs.length):C0 W g zs:=by
 obtain⟨g',t',cs,fuel,p,hg',ht',hvar,hd⟩:=h
 obtain rfl:=cT (hg.symm.trans hg')
 obtain rfl:=cT (hty.symm.trans ht')
 have hc:=Pq ht he hce hct hd
 have cell:∀ (i z:Nat),zs[i]?=some z→W.cell? ⟨g,i,none⟩=some (.float .f64 z):=fun i z hz=>by
  have a:=World.var?_cell hg hvar i
  have b:=hc i z hz
  rw[bI] at b
  rw[a,b]
 refine⟨?_,cell⟩
 have:=cell 0 (zs[0]'h0) (aM h0)
 unfold World.cell? at this
 cases hb:W.heap[(⟨g,0,none⟩:Addr).block]? with
 | none=>rw[hb] at this;cases this
 | some o=>exact(bW.1 hb).1
section
variable {H:Type} {enc:TypeId×Value→H}
theorem Zaj {C:Checked} {os:Os} {f:FuncId} {fn:Func} {s:ChangeSpec} {tb:TypeId} {L:List (String×DataW Unit)} (hX:∀ w w':World,w.heap=w'.heap→laidMetH C.prog L w→laidMetH C.prog L w') (own:ownKnob C.prog.godebug=none) (started:os.Started) (mf:C.prog.inits.idxOf? f=none) (hfn:C.prog.funcs[f]?=some fn)
  (hl:laidOutB C.prog=true) (aw:fn.params.toList.all (fun t=>C.prog.readableRec t&&decide (t<C.prog.types.size))=true) (hv:s.vars=[]) (dt:fn.resultTypes=#[tb]) (htb:C.prog.underlying tb=some .bool)
  (hs:∀ ds:List (DataW H),ds.length=fn.params.size→s.fn H ds={ results:=[.lit (.bool true)],args:=ds })
  (witness:∃ (w:World) (tape:Tape) (i:Input),w.os=os∧(w.forCall tape i).Shaped C.prog∧i.vars=[]∧Input.okWide C.prog (w.forCall tape i) .any w.heap.size f i ∧
   ((s.pre enc C.prog fn [] false (w.forCall tape i).memory i.args∧laidMetH C.prog L (w.forCall tape i).memory)∧sizedMet enc C.prog fn (OpenSpec.ofChange s) false (w.forCall tape i).memory i.args)∧({}:Assume).holds C.prog (lone (Frame.enter C.prog f i.args .normal) [] (w.forCall tape i)))
  (law:∀ (W:World) (base:Nat) (args:Array Value) (ds:List (DataW H)) (p:List MemPlace),(∀ (j:Nat) t v,fn.params[j]?=some t→args[j]?=some v→Value.okWide C.prog W .any base t v) →
   DataW.TrodAll enc C.prog W 0 (fun _=>true) true fn.params.toList args.toList ds p→(∀ (j:Nat) (t:TypeId) (d:DataW H),fn.params.toList[j]?=some t→ds[j]?=some d→∀ n∈d.weights C.prog t,n≤reachBytes) →
   laidMetH C.prog L W→Calls C.prog f args W (Ret W (.bool true))) :
  ReturnsInHanded {} C os f .any (fun w args=>(s.pre enc C.prog fn [] false w args∧laidMetH C.prog L w)∧sizedMet enc C.prog fn (OpenSpec.ofChange s) false w args) (s.post enc C.prog fn false true false false):=by
 refine returnsInHanded_of_change_and (X:=fun w _=>laidMetH C.prog L w) (fun w w' _ hh h=>hX w w' hh h) own started mf hfn witness ?_
 intro W base args ds gs before vi hW _ hsz hL _
 have hW':=hW
 obtain⟨p,q,hA,hV,rfl,hfz,hnd⟩:=hW
 rw[hv] at hV
 obtain⟨rfl,rfl⟩:=trodVars_none hV
 have hlen:ds.length=fn.params.size:=by
  have:=HN hA
  simpa using this
 have hlt:∀ x∈p,x.block<W.heap.size:=fun x hx=>hW'.lt x (cG _ hx)
 refine(law W base args ds p vi hA (fun j t d ht hd n hn=>?_) hL).mono fun e W' ⟨he,hb⟩=>?_
 ·have h1:n∈DataW.weightsEach C.prog (fn.params.toList++s.plain.varTypes C.prog) (ds ++ []) :=
   DataW.weights_mem_each (j:=j) (by rw[dY (by exact(aK.1 ht).1)];exact ht) (by simpa using hd) n hn
  exact of_decide_eq_true (bF.1 hsz n h1)
 ·refine⟨_,he,Ff (pa:=p) (pv:=[]) hW' (fun b sp hd=>?_) (fun sp hsp=>?_) (fun sp _=>?_) rfl hb.kit ?_⟩
  ·rw[dt,bU,hs ds hlen];exact trodAll_mk1 (shut_bool htb true)
  ·rw[bU,hs ds hlen];exact FC hl hb.kit aw hA hlt (fun x hx=>hsp x (cG _ hx))
  ·rw[hv,bU,hs ds hlen];rfl
  ·exact ok_one dt rfl (okWide_bool_mk htb true)
end
end Go.Glue
end
section
namespace Go.Proofs.YtjggkpkehdnhiaaGreatDoor.topPairsRow
open Go.ChangeShapes Go.WideShapes Go.ChangeAt Go.RowKit Go.Glue Go.Eng Go.Sky
theorem own_:ownKnob Tryz.prog.godebug=none:=by kernel_rfl
theorem tabs_of {W:World} (h:laidMetH Tryz.prog Rows.topPairsRow.laid W):G8 W:=by
 rw[MakeChecks.laidMetH_plain _ _ _ (by kernel_rfl)] at h
 obtain⟨ps,⟨g0,t0,cs0,f0,p0,q0,hg0,ht0,hv0,hd0,⟨g1,t1,cs1,f1,p1,q1,hg1,ht1,hv1,hd1,⟨g2,t2,cs2,f2,p2,q2,hg2,ht2,hv2,hd2,_,_⟩,_⟩,_⟩,_,_⟩:=h
 exact⟨Eg (zs:=Aq) (by kernel_rfl:Tryz.prog.globalNamed "math._cos"=some 1) (by kernel_rfl) Tryz.underlying286 Tryz.underlying215 (by kernel_rfl) (by kernel_rfl) ⟨g1,t1,cs1,f1,p1,hg1,ht1,hv1,hd1⟩ (by decide),Eg (zs:=Ap) (by kernel_rfl:Tryz.prog.globalNamed "math._sin"=some 2) (by kernel_rfl) Tryz.underlying286 Tryz.underlying215 (by kernel_rfl) (by kernel_rfl) ⟨g0,t0,cs0,f0,p0,hg0,ht0,hv0,hd0⟩ (by decide)⟩
theorem door_met (os:Os) (args:Array Value):laidMetH Tryz.prog Rows.topPairsRow.laid ((World.doorLaid Tryz.prog 400 os).forCall (fun _ _=>0) ⟨#[],args,[]⟩).memory :=
 laidMetH_of_parts3 (fuel:=8) (laidMet_of_run' 8 (by kernel_rfl) (by kernel_rfl)) (by kernel_rfl) (by kernel_rfl)
theorem lifted (os:Os) (started:os.Started) (H:Type) (enc:TypeId×Value→H) :
  ReturnsInHanded {} Tryz.checked os 6 .any (fun w args=>(Rows.topPairsSpec.pre enc Tryz.prog Tryz.f6 [] false w args∧laidMetH Tryz.prog Rows.topPairsRow.laid w)∧sizedMet enc Tryz.prog Tryz.f6 (OpenSpec.ofChange Rows.topPairsSpec) false w args) (Rows.topPairsSpec.post enc Tryz.prog Tryz.f6 false true false false):=by
 refine Zaj (C:=Tryz.checked) (L:=Rows.topPairsRow.laid) (tb:=4) (fun _ _ hh h=>h.of_heap hh) own_ started (by kernel_rfl) Tryz.func6 (by kernel_rfl) (by kernel_rfl) rfl (by kernel_rfl) Tryz.underlying4 (fun ds h=>by match ds,h with | [_,_],_=>rfl)
  (ChangeSpec.witness_shaped (enc:=enc) (C:=Tryz.checked) (os:=os) (X:=fun w _=>laidMetH Tryz.prog Rows.topPairsRow.laid w) false (World.doorLaid Tryz.prog 400 os) #[.slice none 0 0,.int .i64 0] 8 rfl (World.shaped_of_RefB (by kernel_rfl) (by kernel_rfl)) (by kernel_rfl) (by kernel_rfl) (by kernel_rfl) (door_met os _)) ?_
 intro W base args ds p hval0 hA0 hw0 hL
 have vi:∀ (j:Nat) t v,Tryz.f6.params[j]?=some t→args[j]?=some v→Value.okWide Tryz.prog W .any base t v:=hval0
 have hA:DataW.TrodAll enc Tryz.prog W 0 (fun _=>true) true Tryz.f6.params.toList args.toList ds p:=hA0
 have hw:∀ (j:Nat) (t:TypeId) (d:DataW H),Tryz.f6.params.toList[j]?=some t→ds[j]?=some d→∀ n∈d.weights Tryz.prog t,n≤reachBytes:=hw0
 clear hval0 hA0 hw0
 rw[Tryz.params6] at hA vi hw
 obtain⟨v0,vs0,d0,ds0,p0,q0,gr,rfl,rfl,h0,s0⟩:=trodAll_cons hA
 obtain⟨v1,vs1,d1,ds1,p1,q1,rfl,rfl,rfl,h1,s1⟩:=trodAll_cons s0
 obtain⟨rfl,rfl,rfl⟩:=trodAll_nil s1
 obtain rfl:args=#[v0,v1]:=by cases args;simp_all
 obtain⟨A0,c0,x0,rfl,r0_,l0_,k0⟩:=Sz (Sv Tryz.underlying3) Tryz.underlying22 (by kernel_rfl:Tryz.prog.cellsOf 3=1) (by decide) rfl (aN (by kernel_rfl)) (vi 0 22 v0 rfl rfl) h0 (hw 0 _ _ rfl rfl)
 obtain⟨x1,rfl,k1⟩:=Eo Tryz.underlying3 (vi 1 3 v1 rfl rfl) h1
 have e:=F3 x0 x1 (by have:=r0_.short;rw[aD] at this;exact this) k0 k1
 have r:=GF A0 c0 x0 x1 W r0_ l0_ (tabs_of hL)
 rw[e] at r
 exact r
end Go.Proofs.YtjggkpkehdnhiaaGreatDoor.topPairsRow
namespace Go.Proofs.YtjggkpkehdnhiaaGreatDoor
theorem topPairs_holds:Rows.TopPairsSaid :=
 OpenClaim.holds_of_wide 6 Tryz.f6 rfl rfl rfl rfl rfl rfl rfl ⟨rfl,rfl,rfl,rfl,rfl⟩ rfl rfl rfl rfl rfl (by kernel_rfl) Tryz.func6 (by kernel_rfl)
  (of_decide_eq_true (by kernel_rfl)) (by unfold Func.isWrapper;rw[if_neg (of_decide_eq_false (by kernel_rfl))];exact⟨rfl,rfl⟩)
  (fun os started H enc _=>topPairsRow.lifted os started H enc)
theorem topPairs_card:Rows.TopPairsCardSaid :=
 Claim7.holds_tied_plain_at .later [] [.data,.data,.data] true (true, "74d98562085f6681f41be128b2f0adf57d437f7a8ab0c20d8d444da80047e06a") false
  topPairs_holds (fun _ h=>by cases h) (by kernel_rfl) (fun _ h=>by cases h) topPairs_row_tie rfl ⟨rfl,rfl⟩ (by kernel_rfl) rfl
  (fun f fn hf hfn=>by
   obtain rfl:f=6:=cT ((show Tryz.prog.funcNamed "skyway/skywaytop.TopPairs"=some 6 by kernel_rfl).symm.trans hf) |>.symm
   obtain rfl:fn=Tryz.f6:=(cT (Tryz.func6.symm.trans hfn)).symm
   exact⟨by kernel_rfl,fun j t ht=>by
    rw[Tryz.params6] at ht
    rcases j with _|j
    ·have h3:t=22:=by simpa using ht.symm
     subst h3
     exact(show Tryz.prog.wantsStandIn 22=false by kernel_rfl)
    rcases j with _|j
    ·have h3:t=3:=by simpa using ht.symm
     subst h3
     exact(show Tryz.prog.wantsStandIn 3=false by kernel_rfl)
    simp at ht⟩)
  (by kernel_rfl)
end Go.Proofs.YtjggkpkehdnhiaaGreatDoor
end
