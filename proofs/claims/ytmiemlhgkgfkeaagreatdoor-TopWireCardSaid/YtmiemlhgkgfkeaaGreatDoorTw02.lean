/- Lemmas toward the given statement (part 2 of 20): Eqb Row Plan Glue Ok Fct Delta Sa Thick. Each theorem states its own conditions; nothing is assumed beyond them. -/
import Derived.Test.YtmiemlhgkgfkeaaGreatDoorTw01
import Derived.Maps.AppendAt
import Derived.Laws.OwnMore
import Derived.Laws.CopyRow
import Derived.ProofKit
import Derived.SizedLaws
import Derived.Deep.Slices
import Derived.Test.YtmiemlhgkgfkeaaGreatDoorRows
set_option maxRecDepth 100000
section
namespace Go.Sky
open Go.Eng
def P.eqb (a b:P):Bool:=((a.X==b.X)&&((a.Y==b.Y)&&true))
theorem P.eqb_eq (a b:P):P.eqb a b=decide (a=b):=by
 rw[bK,decide_eq_true_iff]
 cases a;cases b
 simp[P.eqb]
def Zr.eqb (a b:Zr):Bool:=((a.Radar==b.Radar)&&((a.Time==b.Time)&&((a.Range==b.Range)&&((a.Azimuth==b.Azimuth)&&((a.Height==b.Height)&&((a.Code==b.Code)&&true))))))
theorem Zr.eqb_eq (a b:Zr):Zr.eqb a b=decide (a=b):=by
 rw[bK,decide_eq_true_iff]
 cases a;cases b
 simp[Zr.eqb]
def XZ.eqb (a b:XZ):Bool:=((a.Range==b.Range)&&((a.Azimuth==b.Azimuth)&&((a.Time==b.Time)&&true)))
theorem XZ.eqb_eq (a b:XZ):XZ.eqb a b=decide (a=b):=by
 rw[bK,decide_eq_true_iff]
 cases a;cases b
 simp[XZ.eqb]
def Zl.eqb (a b:Zl):Bool:=((a.ID==b.ID)&&(P.eqb a.At b.At&&((a.Reach==b.Reach)&&((a.RangeError==b.RangeError)&&((a.AzimuthError==b.AzimuthError)&&true)))))
theorem Zl.eqb_eq (a b:Zl):Zl.eqb a b=decide (a=b):=by
 rw[bK,decide_eq_true_iff]
 cases a;cases b
 simp[Zl.eqb,P.eqb_eq]
def Track.eqb (a b:Track):Bool:=((a.ID==b.ID)&&((a.State==b.State)&&((a.Time==b.Time)&&(P.eqb a.At b.At&&(P.eqb a.Speed b.Speed&&((a.Height==b.Height)&&((a.Rate==b.Rate)&&((a.Radius==b.Radius)&&((a.Code==b.Code)&&((a.Hits==b.Hits)&&((a.Misses==b.Misses)&&true)))))))))))
theorem Track.eqb_eq (a b:Track):Track.eqb a b=decide (a=b):=by
 rw[bK,decide_eq_true_iff]
 cases a;cases b
 simp[Track.eqb,P.eqb_eq]
def Zm.eqb (a b:Zm):Bool:=((a.Time==b.Time)&&(P.eqb a.At b.At&&((a.Height==b.Height)&&((a.Code==b.Code)&&((a.Error==b.Error)&&true)))))
theorem Zm.eqb_eq (a b:Zm):Zm.eqb a b=decide (a=b):=by
 rw[bK,decide_eq_true_iff]
 cases a;cases b
 simp[Zm.eqb,P.eqb_eq]
def Za.eqb (a b:Za):Bool:=(Track.eqb a.Track b.Track&&((a.Slack==b.Slack)&&(Zm.eqb a.Last b.Last&&true)))
theorem Za.eqb_eq (a b:Za):Za.eqb a b=decide (a=b):=by
 rw[bK,decide_eq_true_iff]
 cases a;cases b
 simp[Za.eqb,Zm.eqb_eq,Track.eqb_eq]
def Zg.eqb (a b:Zg):Bool:=((a.Hits==b.Hits)&&((a.Scans==b.Scans)&&true))
theorem Zg.eqb_eq (a b:Zg):Zg.eqb a b=decide (a=b):=by
 rw[bK,decide_eq_true_iff]
 cases a;cases b
 simp[Zg.eqb]
def XD.eqb (a b:XD):Bool:=((a.Time==b.Time)&&((a.Level==b.Level)&&true))
theorem XD.eqb_eq (a b:XD):XD.eqb a b=decide (a=b):=by
 rw[bK,decide_eq_true_iff]
 cases a;cases b
 simp[XD.eqb]
def Sep.eqb (a b:Sep):Bool:=((a.Lateral==b.Lateral)&&((a.Vertical==b.Vertical)&&true))
theorem Sep.eqb_eq (a b:Sep):Sep.eqb a b=decide (a=b):=by
 rw[bK,decide_eq_true_iff]
 cases a;cases b
 simp[Sep.eqb]
def Q6.eqb (a b:Q6):Bool:=((a.A==b.A)&&((a.B==b.B)&&((a.Seconds==b.Seconds)&&true)))
theorem Q6.eqb_eq (a b:Q6):Q6.eqb a b=decide (a=b):=by
 rw[bK,decide_eq_true_iff]
 cases a;cases b
 simp[Q6.eqb]
def Wc.eqb (a b:Wc):Bool:=((a.From==b.From)&&((a.To==b.To)&&true))
theorem Wc.eqb_eq (a b:Wc):Wc.eqb a b=decide (a=b):=by
 rw[bK,decide_eq_true_iff]
 cases a;cases b
 simp[Wc.eqb]
def Node.eqb (a b:Node):Bool:=((a.Time==b.Time)&&(P.eqb a.At b.At&&((a.Height==b.Height)&&true)))
theorem Node.eqb_eq (a b:Node):Node.eqb a b=decide (a=b):=by
 rw[bK,decide_eq_true_iff]
 cases a;cases b
 simp[Node.eqb,P.eqb_eq]
def Ja.eqb (a b:Ja):Bool:=(Node.eqb a.Node b.Node&&((a.Radius==b.Radius)&&((a.Band==b.Band)&&true)))
theorem Ja.eqb_eq (a b:Ja):Ja.eqb a b=decide (a=b):=by
 rw[bK,decide_eq_true_iff]
 cases a;cases b
 simp[Ja.eqb,Node.eqb_eq]
def ZB.eqb (a b:ZB):Bool:=((a.Need==b.Need)&&((a.Of==b.Of)&&((a.Misses==b.Misses)&&((a.Accel==b.Accel)&&((a.Place==b.Place)&&((a.Speed==b.Speed)&&true))))))
theorem ZB.eqb_eq (a b:ZB):ZB.eqb a b=decide (a=b):=by
 rw[bK,decide_eq_true_iff]
 cases a;cases b
 simp[ZB.eqb]
def followed.eqb (a b:followed):Bool:=(Za.eqb a.f b.f&&(Zg.eqb a.history b.history&&((a.hit==b.hit)&&true)))
theorem followed.eqb_eq (a b:followed):followed.eqb a b=decide (a=b):=by
 rw[bK,decide_eq_true_iff]
 cases a;cases b
 simp[followed.eqb,Zg.eqb_eq,Za.eqb_eq]
end Go.Sky
end
section
namespace Go.Eng
def flat (rows:List (Array Value)):List Value:=(rows.map Array.toList).flatten
theorem V9 (r s:List (Array Value)):flat (r++s)=flat r++flat s:=by simp[flat]
theorem JR (r:Array Value) (s:List (Array Value)):flat (r::s)=r.toList++flat s:=by simp[flat]
theorem Qr {sz:Nat}:∀ (rows:List (Array Value)),(∀ r∈rows,r.size=sz)→(flat rows).length=rows.length*sz
 | [],_=>by simp[flat]
 | r::rows,h=>by
  rw[JR,aI,Qr rows (fun r hr=>h r (by simp[hr])),aX,h r (by simp),aG,cP];omega
theorem Hw {sz:Nat}:∀ (rows:List (Array Value)) (n:Nat),(∀ r∈rows,r.size=sz)→(flat rows).take (n*sz)=flat (rows.take n)
 | [],n,_=>by simp[flat]
 | r::rows,0,_=>by simp[flat]
 | r::rows,n+1,h=>by
  have hr:r.toList.length=sz:=by rw[aX];exact h r (by simp)
  rw[JR,fS,JR,List.take_append,← Hw rows n (fun r hr=>h r (by simp[hr])),hr,dQ (by rw[hr,cP];omega)]
  congr 2
  rw[cP];omega
structure Il (A:Option Addr) (cap:Nat) (e:TypeId) (sz:Nat) (rows:List (Array Value)) (w:World) (g:Nat) (cur:Array Value):Prop where
 at_:A=some ⟨g,0,none⟩
 pos:0<cap
 heap:w.heap[g]?=some (.cells cur e (0,0))
 le:rows.length≤cap
 max:cap≤maxLen
 size:cur.size=cap*sz
 holds:cur.toList.take (rows.length*sz)=flat rows
 each:∀ r∈rows,r.size=sz
 short:rows.length<4611686018427387904
def Ul (A:Option Addr) (cap:Nat) (e:TypeId) (sz:Nat) (rows:List (Array Value)) (w:World):Prop:=(cap=0∧rows=[])∨∃ g cur,Il A cap e sz rows w g cur
theorem Ul.nil (A:Option Addr) (e:TypeId) (sz:Nat) (w:World):Ul A 0 e sz [] w:=.inl ⟨rfl,rfl⟩
def Own (A:Option Addr) (cap:Nat) (e:TypeId) (sz:Nat) (rows:List (Array Value)):Res where
 foot b:=0<cap∧∃ a,A=some a∧a.block=b
 holds:=Ul A cap e sz rows
 lt w h b hb:=by
  obtain⟨hp,a,rfl,rfl⟩:=hb
  rcases h with ⟨h1,_⟩|⟨g,cur,h⟩
  ·omega
  ·have h1:=h.at_
   simp only[aD] at h1;subst h1;exact Us h.heap
 kept w w' h hk:=by
  rcases h with h|⟨g,cur,h⟩
  ·exact .inl h
  ·exact .inr ⟨g,cur,{ h with heap:=(hk g ⟨h.pos,_,h.at_,rfl⟩).trans h.heap }⟩
abbrev Ow (A:Option Addr) (cap:Nat) (e:TypeId) (sz:Nat) (rows:List (Array Value)):Ent:=.inr (Own A cap e sz rows)
theorem Ul.each {w:World} {A:Option Addr} {cap:Nat} {e:TypeId} {sz:Nat} {rows:List (Array Value)} (h:Ul A cap e sz rows w):∀ r∈rows,r.size=sz:=by
 rcases h with ⟨_,rfl⟩|⟨g,cur,h⟩
 ·simp
 ·exact h.each
theorem Ul.short {w:World} {A:Option Addr} {cap:Nat} {e:TypeId} {sz:Nat} {rows:List (Array Value)} (h:Ul A cap e sz rows w):rows.length<4611686018427387904:=by
 rcases h with ⟨_,rfl⟩|⟨g,cur,h⟩
 ·simp
 ·exact h.short
theorem Ul.le {w:World} {A:Option Addr} {cap:Nat} {e:TypeId} {sz:Nat} {rows:List (Array Value)} (h:Ul A cap e sz rows w):rows.length≤cap:=by
 rcases h with ⟨_,rfl⟩|⟨g,cur,h⟩
 ·simp
 ·exact h.le
theorem JS (g j:Nat):(⟨g,0,none⟩:Addr).add j=⟨g,j,none⟩:=by unfold Addr.add;split <;> simp_all
theorem Il.cell {w:World} {A:Option Addr} {cap:Nat} {e:TypeId} {sz:Nat} {rows:List (Array Value)} {g:Nat} {cur:Array Value} (h:Il A cap e sz rows w g cur) {j:Nat} {v:Value} (hf:(flat rows)[j]?=some v):w.cell? ⟨g,j,none⟩=some v:=by
 rw[← h.holds,fU] at hf
 rw[cell_of_row w g _ cur e (0,0) h.heap]
 split at hf
 ·simpa using hf
 ·cases hf
theorem Ul.rd {w:World} {A:Option Addr} {cap:Nat} {e:TypeId} {sz:Nat} {rows:List (Array Value)} (h:Ul A cap e sz rows w):Rd w sz A rows:=by
 refine⟨h.short,fun i r hi=>?_⟩
 rcases h with ⟨_,rfl⟩|⟨g,cur,h⟩
 ·simp at hi
 ·refine⟨h.each r (aH hi),_,h.at_,Us h.heap,fun j v hv=>?_⟩
  rw[JS]
  exact h.cell (UU rows h.each i r hi j v hv)
theorem Sat.res {w0:Ctx} {w:World} {M:Mem} (h:Sat w0 M w) {j:Nat} {r:Res} (hj:M[j]?=some (.inr r)):r.holds w:=(h.own _ (aH hj)).1
theorem Sat.own_at {w0:Ctx} {w:World} {M:Mem} {A:Option Addr} {cap:Nat} {e:TypeId} {sz:Nat} {rows:List (Array Value)} (h:Sat w0 M w) (j:Nat) (hj:M[j]?=some (.inr (Own A cap e sz rows))):Ul A cap e sz rows w:=h.res hj
theorem Sat.rd_at {w0:Ctx} {w:World} {M:Mem} {A:Option Addr} {cap:Nat} {e:TypeId} {sz:Nat} {rows:List (Array Value)} (h:Sat w0 M w) (j:Nat) (hj:M[j]?=some (.inr (Own A cap e sz rows))):Rd w sz A rows:=(h.own_at j hj).rd
theorem Sat.emptyrow {w0:Ctx} {w:World} {M:Mem} (A:Option Addr) (e:TypeId) (sz:Nat) (h:Sat w0 M w):Sat w0 (.inr (Own A 0 e sz [])::M) w :=
 h.push (Below.refl _ _) _ (Ul.nil A e sz w) (fun b hb=>absurd hb.1 (by omega))
theorem Sat.le_at {α:Type} {c:α→Array Value} {l:List α} {w0:Ctx} {w:World} {M:Mem} {A:Option Addr} {cap:Nat} {e:TypeId} {sz:Nat} (h:Sat w0 M w) (j:Nat) (hj:M[j]?=some (.inr (Own A cap e sz (l.map c)))):l.length≤cap:=by
 have:=(h.own_at j hj).le
 rwa [aF] at this
theorem Sat.short_at {α:Type} {c:α→Array Value} {l:List α} {w0:Ctx} {w:World} {M:Mem} {A:Option Addr} {cap:Nat} {e:TypeId} {sz:Nat} (h:Sat w0 M w) (j:Nat) (hj:M[j]?=some (.inr (Own A cap e sz (l.map c)))):l.length<4611686018427387904:=by
 have:=(h.own_at j hj).short
 rwa [aF] at this
theorem HN {α:Type} {c:α→Array Value} {w:World} {sz:Nat} {l:List α} (h:Rd w sz none (l.map c)):l=[]:=by
 cases l with
 | nil=>rfl
 | cons x l=>obtain⟨_,ad,h2,_⟩:=h.row 0 (c x) rfl;cases h2
theorem Sat.litrow {w0:Ctx} {w:World} {M:Mem} {b e sz:Nat} {c:Array Value} (h:Sat w0 M w) (j:Nat) (rows:List (Array Value)) (hj:M[j]?=some (.inl (b,.cells c e (0,0)))) (hl:Nat.blt rows.length 4611686018427387904=true)
  (hs:rows.all (fun r=>Nat.beq r.size sz)=true) (hc:c.toList=flat rows) {n:Nat} (hn:Nat.beq n rows.length=true):Sat w0 (M.set j (.inr (Own (some ⟨b,0,none⟩) n e sz rows))) w:=by
 have hn:=bE hn
 subst hn
 have ja:∀ r∈rows,r.size=sz:=fun r hr=>bE (bC.1 hs r hr)
 have hlt:rows.length<4611686018427387904:=aL hl
 have hb:=h.block (aH hj)
 have hlen:=Qr rows ja
 refine h.step hj (Chg.refl _ _) ?_ (fun b' hb'=>?_)
 ·rcases bM rows.length with h0|h0
  ·exact .inl ⟨h0,fK h0⟩
  ·refine .inr ⟨b,c,rfl,h0,hb,aR _,by simp only[maxLen];omega,?_,?_,ja,hlt⟩
   ·rw[← aX,hc,hlen]
   ·rw[hc,← hlen,gF]
 ·obtain⟨_,a,h1,rfl⟩:=hb'
  simp only[aD] at h1
  subst h1
  exact .inl rfl
structure OU (P:Program) (t e sz bytes:Nat):Prop where
 under:P.underlying t=some (.slice e)
 info:∃ i z,P.info? e=some i∧i.zero=some z∧i.size=sz∧i.bytes=bytes∧z.cells.size=sz
def Uu (P:Program) (t e sz bytes:Nat):Bool :=
 match P.underlying t with
 | some (.slice e')=>Nat.beq e' e&&match P.info? e with
  | some i=>match i.zero with
   | some z=>Nat.beq i.size sz&&Nat.beq i.bytes bytes&&Nat.beq z.cells.size sz
   | none=>false
  | none=>false
 | _=>false
theorem Va {P:Program} {t e sz bytes:Nat} (h:Uu P t e sz bytes=true):OU P t e sz bytes:=by
 unfold Uu at h
 split at h
 ·rename_i e' ht
  simp only[aW] at h
  obtain⟨h0,h⟩:=h
  have:=bE h0
  subst this
  split at h
  ·rename_i i hi
   split at h
   ·rename_i z hz
    simp only[aW] at h
    exact⟨ht,i,z,hi,hz,bE h.1.1,bE h.1.2,bE h.2⟩
   ·cases h
  ·cases h
 ·cases h
def CB (rows:List (Array Value)):Prop:=∀ r∈rows,∀ u∈r.toList,u.oneCell'=true
theorem OV {α:Type} {c:α→Array Value} (h:∀ x,(c x).toList.all Value.oneCell'=true) (l:List α):CB (l.map c):=by
 intro r hr u hu
 obtain⟨x,_,rfl⟩:=bT.1 hr
 exact bC.1 (h x) u hu
theorem SJ (x:Int):(ic x).toList.all Value.oneCell'=true:=rfl
theorem Rd.flat {w:World} {sz:Nat} {b:Addr} {news:List (Array Value)} (hsz:0<sz) (hr:Rd w sz (some b) news):∀ (j:Nat) (u:Value),(flat news)[j]?=some u→w.cell? (b.add j)=some u:=by
 have pc:∀ r∈news,r.size=sz:=fun r hm=>by
  obtain⟨k,hk⟩:=cQ hm
  exact(hr.row k r hk).1
 intro j u hj
 have tq:=Qr news pc
 have hjl:j<news.length*sz:=by rw[← tq];exact(aK.1 hj).1
 have hq:j/sz<news.length:=Nat.div_lt_of_lt_mul (by rw[cS];exact hjl)
 have dd:news[j/sz]?=some news[j/sz]:=aS hq
 obtain⟨hrs,ad,h3,_,h5⟩:=hr.row _ _ dd
 simp only[aD] at h3
 subst h3
 have gl:=eN j hsz
 have hel:(news[j/sz]'hq)[j%sz]?=some ((news[j/sz]'hq)[j%sz]'(by rw[hrs];exact gl)):=bW _
 have hv:=UU news pc (j/sz) _ dd (j%sz) _ hel
 have hj2:j/sz*sz+j%sz=j:=by rw[cS];exact gI j sz
 have hfe:(news.map Array.toList).flatten=Eng.flat news:=rfl
 rw[hj2,hfe,hj] at hv
 have:=h5 (j%sz) u (by rw[hel];exact hv.symm)
 rwa [hj2] at this
theorem LX {P:Program} {w:World} {t e sz bytes cap cap2 m:Nat} {A B:Option Addr} {rows news:List (Array Value)} (ty:TypeId) (hT:Uu P t e sz bytes=true) (hsz:Nat.blt 0 sz=true) (hb:Nat.blt 0 bytes=true)
  (uf:Ul A cap e sz rows w) (hr:Rd w sz B news) (hm:m=news.length) (h1:CB news) (hlen:(rows.length+news.length)*bytes≤140737488355328) :
  ∃ A' gm w',(Builtin.append_ #[t,t] ty #[.slice A rows.length cap,.slice B m cap2]).run P w=.ok (.slice A' (rows.length+news.length) gm) w'∧Ul A' gm e sz (rows++news) w' ∧
   Chg (Own A cap e sz rows).foot w w'∧∀ b,(Own A' gm e sz (rows++news)).foot b→(Own A cap e sz rows).foot b∨w.heap.size≤b:=by
 obtain⟨hu,i,z,hi,hz,hs1,hs2,hs3⟩:=Va hT
 subst hm
 have hb0:0<bytes:=aL hb
 have gn:0<sz:=aL hsz
 have hlt:rows.length+news.length≤140737488355328:=bH (Nat.le_mul_of_pos_right _ hb0) hlen
 rcases bM news.length with h0|h0
 ·have hn:news=[]:=fK h0
  subst hn
  refine⟨A,cap,w,?_,by simpa using uf,Chg.refl _ _,fun b hb=>.inl (by simpa using hb)⟩
  have hle:=uf.le
  cases A <;> cases B <;> simp[Builtin.append_,run_underlying hu,sizeOf,typeInfo,hi,Builtin.lenOf,Builtin.firstCells,loadCells,loadCellsFrom,hle,storeCells]
 ·have hB:∃ b,B=some b:=by
   have h2:news[0]?=some news[0]:=aS h0
   obtain⟨_,ad,h3,_⟩:=hr.row 0 _ h2
   exact⟨ad,h3⟩
  obtain⟨b,rfl⟩:=hB
  have pc:∀ r∈news,r.size=sz:=fun r hm=>by
   obtain⟨k,hk⟩:=cQ hm
   exact(hr.row k r hk).1
  have gf:=hr.flat gn
  have hfl:(flat news).length=news.length*i.size:=by rw[Qr news pc,hs1]
  have s6:∀ u∈flat news,u.oneCell'=true:=fun u hu=>by
   obtain⟨l,hl,hul⟩:=List.mem_flatten.1 hu
   obtain⟨r,hr,rfl⟩:=bT.1 hl
   exact h1 r hr u hul
  have pr:∀ r∈rows++news,r.size=sz:=fun r hr=>by
   rcases bD.1 hr with hr|hr
   ·exact uf.each r hr
   ·exact pc r hr
  have hsh:(rows++news).length<4611686018427387904:=by rw[aI];omega
  have hlf:(flat rows++flat news).length=(rows.length+news.length)*sz:=by rw[← V9,Qr _ pr,aI]
  have hnc:=growslice_fits (old:=cap) (need:=rows.length+news.length) (bytes:=i.bytes)
  have h63:((rows.length+news.length:Nat):Int)≤9223372036854775807:=by omega
  have grown:∀ (old:Nat) (w1:World),w1=w.drew.alloc (.cells ((flat rows).toArray++(flat news).toArray++Builtin.zeroCells z.cells (grownCap w (rows.length+news.length) old e-(rows.length+news.length))) e) →
    Ul (some ⟨w.heap.size,0,none⟩) (grownCap w (rows.length+news.length) old e) e sz (rows++news) w1∧Chg (Own A cap e sz rows).foot w w1 ∧
    ∀ b,(Own (some ⟨w.heap.size,0,none⟩) (grownCap w (rows.length+news.length) old e) e sz (rows++news)).foot b→(Own A cap e sz rows).foot b∨w.heap.size≤b:=by
   intro old w1 hw1
   subst hw1
   have hge:=grownCap_ge w (rows.length+news.length) old e
   have hcm:=grownCap_le_maxLen w (rows.length+news.length) old e (by simp only[maxLen];omega)
   refine⟨.inr ⟨_,_,rfl,by omega,heap_alloc_new w.drew _,by rw[aI];exact hge,hcm,?_,?_,pr,hsh⟩,Chg.of_below ?_,fun b hb=>?_⟩
   ·simp only[Array.size_append,dN,size_zeroCells,hs3]
    rw[← aI,hlf,← cP]
    congr 1
    omega
   ·simp only[Array.toList_append,aT]
    rw[← aT,aI,← hlf,V9]
    exact List.take_left
   ·exact((Below.refl _ w).drew).alloc (aR _) _
   ·obtain⟨_,a,h2,rfl⟩:=hb
    simp only[aD] at h2
    subst h2
    exact .inr (aR _)
  rcases uf with ⟨rfl,rfl⟩|⟨g,cur,h⟩
  ·simp only[bJ,bB] at *
   cases A with
   | none =>
    have hr:=run_append_nil (P:=P) w t ty e i z hu hi hz b news.length cap2 (flat news) hfl gf h0 h63 (by rw[hs2];omega)
    obtain⟨g1,g2,g3⟩:=grown 0 _ rfl
    exact⟨_,_,_,by rw[hr];simp[flat],g1,g2,g3⟩
   | some a =>
    have hr:=run_append_grow (P:=P) w t ty e i z hu hi hz a 0 0 [] (by simp) (by simp) b news.length cap2 (flat news) hfl gf (by omega) (by simpa using h63) (by simpa using hnc h0 (by rw[hs2];exact hlen))
    simp only[bB] at hr
    obtain⟨g1,g2,g3⟩:=grown 0 _ rfl
    exact⟨_,_,_,by rw[hr];simp[flat],g1,g2,g3⟩
  ·have hA:=h.at_
   subst hA
   by_cases hroom:rows.length+news.length≤cap
   ·have tu:rows.length*i.size+(flat news).length≤cur.size:=by rw[hfl,h.size,hs1,← cP];exact bO _ hroom
    have hr:=run_append_room (P:=P) w t ty e i hu hi g rows.length cap cur h.heap b news.length cap2 (flat news) hfl gf s6 hroom tu
    refine⟨_,_,_,hr,.inr ⟨g,_,rfl,h.pos,setRow_heap w g cur _ e _ h.heap,by rw[aI];exact hroom,h.max,?_,?_,pr,hsh⟩,⟨rfl,rfl,rfl,by simp[World.setRow],fun k _ hk=>setRow_other w g k _ (fun e=>hk ⟨h.pos,_,rfl,e.symm⟩),aR _⟩,fun b hb=>.inl hb⟩
    ·have:=h.size
     simp only[dN,aI,bG,bU,aX]
     omega
    ·rw[hs1,h.holds,aI,← hlf,V9]
     exact List.take_left
   ·have hr:=run_append_grow (P:=P) w t ty e i z hu hi hz ⟨g,0,none⟩ rows.length cap (flat rows) (by rw[Qr rows h.each,hs1]) (fun j u hu=>by rw[JS];exact h.cell hu) b news.length cap2 (flat news) hfl gf (by omega) h63
     (hnc (by omega) (by rw[hs2];exact hlen))
    obtain⟨g1,g2,g3⟩:=grown cap _ rfl
    exact⟨_,_,_,hr,g1,g2,g3⟩
theorem Uw {P:Program} {s:Sem Value} {w w':World} {v:Value} (h:s.run P w=.ok v w'):(sV s).run P w=.ok (.value v) w':=by
 have:(sV s)=(do let v ← s;pure (Next.value v)):=rfl
 rw[this]
 simp only[Sem.run_bind,h,Result.andThen_ok,Sem.run_pure]
theorem Jc {α:Type} {c:α→Array Value} {P:Program} {w0:Ctx} {M:Mem} {t e sz bytes cap cap2 m:Nat} {A B:Option Addr} {l:List α} (ty:TypeId) (j:Nat) (news:List α) (hT:Uu P t e sz bytes=true) (hsz:Nat.blt 0 sz=true) (hb:Nat.blt 0 bytes=true)
  (h1:∀ x,(c x).toList.all Value.oneCell'=true) (hj:M[j]?=some (.inr (Own A cap e sz (l.map c)))) (hr:∀ w,Sat w0 M w→Rd w sz B (news.map c)) (hm:m=news.length) (hlen:(l.length+news.length)*bytes≤140737488355328) (w:World) (hM:Sat w0 M w) :
  ∃ (g:Option Addr×Nat) (w':World),(sV (Builtin.append_ #[t,t] ty #[.slice A l.length cap,.slice B m cap2])).run P w=.ok (.value (.slice g.1 (l++news).length g.2)) w' ∧
   Sat w0 (M.set j (.inr (Own g.1 g.2 e sz ((l++news).map c)))) w':=by
 obtain⟨A',gm,w',h2,h3,h4,h5⟩:=LX (cap2:=cap2) (m:=m) ty hT hsz hb (hM.own_at j hj) (hr w hM) (by rw[hm,aF]) (OV h1 news) (by rw[aF,aF];exact hlen)
 rw[← dD] at h3 h5
 rw[aF,aF] at h2
 exact⟨(A',gm),w',by rw[aI];exact Uw h2,hM.step hj h4 h3 h5⟩
theorem Fj (z:Array Value):∀ n,(madeCells z (n*z.size)).toList=flat (List.replicate n z):=by
 intro n
 have ja:∀ r∈List.replicate n z,r.size=z.size:=fun r hr=>by rw[eW hr]
 apply fA
 intro j
 by_cases hj:j<n*z.size
 ·have h0:0<z.size:=by rcases bM z.size with h|h;(rw[h] at hj;omega);exact h
  have hq:j/z.size<n:=Nat.div_lt_of_lt_mul (by rw[cS];exact hj)
  have gl:=eN j h0
  have hv:=UU (List.replicate n z) ja (j/z.size) z (by simp[hq]) (j%z.size) z[j%z.size] (bW gl)
  have hj2:j/z.size*z.size+j%z.size=j:=by rw[cS];exact gI j z.size
  rw[hj2] at hv
  show _=(List.map Array.toList (List.replicate n z)).flatten[j]?
  rw[hv]
  simp[madeCells,hj,gl]
 ·rw[dF (by simp[madeCells];omega),dF (by rw[Qr _ ja,bL];omega)]
theorem V0 {α:Type} {c:α→Array Value} {P:Program} {w0:Ctx} {M:Mem} {t e sz bytes:Nat} (x:α) (kl kc:IntKind) (n:Nat) (hT:Uu P t e sz bytes=true) (hz:((P.info? e).bind (·.zero)).map Value.cells=some (c x))
  (hlen:bytes*n≤281474976710656) (h62:n<4611686018427387904) (w:World) (hM:Sat w0 M w) :
  ∃ (g:Option Addr×Nat) (w':World),(sV (Instr.makeSlice t (.int kl (n:Int)) (.int kc (n:Int)))).run P w=.ok (.value (.slice g.1 (List.replicate n x).length g.2)) w'∧Sat w0 (.inr (Own g.1 g.2 e sz ((List.replicate n x).map c))::M) w':=by
 obtain⟨hu,i,zv,hi,hzv,hs1,hs2,hs3⟩:=Va hT
 have hz':zv.cells=c x:=by simpa[hi,hzv] using hz
 obtain⟨w',hr,uf,hg⟩:=run_make_full (P:=P) w 0 t e i zv sz hu hi hzv hs1 kl kc n (by rw[hs2];exact hlen) (by simp only[maxLen];omega) (aN _)
 have hd:w.drawn≤w'.drawn:=by
  have bp:(n:Int)≤9223372036854775807:=by omega
  have hb':(i.bytes:Int)*(n:Int)≤281474976710656:=by
   have h:((i.bytes*n:Nat):Int)≤281474976710656:=by rw[hs2];omega
   rwa [fR] at h
  have h2:=run_make (P:=P) w t e i zv hu hi hzv kl kc n n (by omega) (dL _) hb' bp
  simp only[aP] at h2
  rw[h2] at hr
  cases hr
  exact aR _
 have ja:∀ r∈List.replicate n (c x),r.size=sz:=fun r hr=>by rw[eW hr,← hz',hs3]
 refine⟨(some ⟨w.heap.size,0,none⟩,n),w',by rw[bL];exact Uw hr,?_⟩
 have hb:Below w.heap.size w w':=⟨hg.os,hg.tape,hg.output,hg.size,fun k hk=>hg.block k hk (by simp),hd⟩
 rw[eX]
 refine hM.push hb _ ?_ (fun b hb=>?_)
 ·rcases uf.2 with ⟨h0,_⟩|⟨g,cap,cur,h1,_,h3,h4,h5,h6,h7⟩
  ·cases h0
  ·simp only[Value.slice.injEq,aD,Addr.mk.injEq,and_true,true_and] at h1
   obtain⟨rfl,rfl⟩:=h1
   rcases bM n with h0|h0
   ·subst h0;exact .inl ⟨rfl,rfl⟩
   ·refine .inr ⟨w.heap.size,cur,rfl,h0,h3,by simp,h5,h6,?_,ja,by simpa using h62⟩
    have:=Fj zv.cells n
    rw[hs3,hz'] at this
    rw[bL,h7,← hz']
    rw[hz']
    exact this
 ·obtain⟨_,a,h1,rfl⟩:=hb
  simp only[aD] at h1
  subst h1
  exact aR _
def upd (r:Array Value) (off:Nat) (cs:List Value):Array Value:=(r.toList.take off++cs++r.toList.drop (off+cs.length)).toArray
theorem SK {r:Array Value} {off:Nat} {cs:List Value} (h:off+cs.length≤r.size):(upd r off cs).size=r.size:=by
 simp[upd];omega
theorem ML {sz:Nat}:∀ (rows:List (Array Value)) (i:Nat) (r:Array Value) (off:Nat) (cs:List Value),(∀ r∈rows,r.size=sz)→rows[i]?=some r→off+cs.length≤sz →
  (flat rows).take (i*sz+off)++cs++(flat rows).drop (i*sz+off+cs.length)=flat (rows.set i (upd r off cs))
 | [],i,r,off,cs,_,hi,_=>by simp at hi
 | r0::rows,0,r,off,cs,ja,hi,hle=>by
  simp only[cG,aD] at hi
  subst hi
  have hr:r0.toList.length=sz:=by rw[aX];exact ja r0 (by simp)
  rw[JR,List.set_cons_zero,JR,eF,bB,fL (by omega),List.drop_append_of_le_length (by omega)]
  simp[upd,List.append_assoc]
 | r0::rows,i+1,r,off,cs,ja,hi,hle=>by
  simp only[cH] at hi
  have hr:r0.toList.length=sz:=by rw[aX];exact ja r0 (by simp)
  have ih:=ML rows i r off cs (fun r hr=>ja r (by simp[hr])) hi hle
  rw[JR,List.set_cons_succ,JR,← ih]
  have e1:(i+1)*sz+off=r0.toList.length+(i*sz+off):=by rw[hr,cP];omega
  rw[e1,eV,List.take_length_add_append,List.drop_length_add_append]
  simp[List.append_assoc]
def sU (s:Sem Unit):Sem Next:=s.bind fun _=>.pure .skip
theorem Im {P:Program} {s:Sem Unit} {w w':World} (h:s.run P w=.ok () w'):(sU s).run P w=.ok .skip w':=by
 have:(sU s)=(do s;pure Next.skip):=rfl
 rw[this]
 simp only[Sem.run_bind,h,Result.andThen_ok,Sem.run_pure]
theorem HO (L cs:List Value) (p N:Nat) (h:p+cs.length≤N) (hN:N≤L.length):(L.take p++cs++L.drop (p+cs.length)).take N=(L.take N).take p++cs++(L.take N).drop (p+cs.length):=by
 have h1:(L.take p++cs).length=p+cs.length:=by rw[aI,bG];omega
 rw[List.take_append,dQ (by omega),h1,gN,dO (by omega),gM]
theorem DN {P:Program} {w:World} {T n e sz cap off i:Nat} {A:Option Addr} {rows:List (Array Value)} {r:Array Value} (v:Value) (uf:Ul A cap e sz rows w) (hi:rows[i]?=some r)
  (hT:((P.info? T).map (·.size))=some n) (hv:v.cells.size=n) (hle:Nat.ble (off+n) sz=true) (h1:v.cells.toList.all Value.oneCell'=true) :
  ∃ w',(sU (Instr.storeAt T (.pointer (some (((A.getD Y4).add (i*sz)).add off))) v)).run P w=.ok .skip w'∧Ul A cap e sz (rows.set i (upd r off v.cells.toList)) w'∧Chg (Own A cap e sz rows).foot w w':=by
 have bo:=aL hle
 have hil:i<rows.length:=(aK.1 hi).1
 have hrs:r.size=sz:=uf.each r (aH hi)
 have hcl:v.cells.toList.length=n:=by rw[aX];exact hv
 rcases uf with ⟨_,rfl⟩|⟨g,cur,ho⟩
 ·simp at hi
 ·have h2:=ho.heap
  have h3:=ho.le
  have h4:=ho.max
  have h5:=ho.size
  have h6:=ho.holds
  have hA:=ho.at_
  subst hA
  have fc:(((some (⟨g,0,none⟩:Addr)).getD Y4).add (i*sz)).add off=⟨g,i*sz+off,none⟩:=by rw[add_add'];exact JS _ _
  have tu:i*sz+off+n≤rows.length*sz:=by
   have:(i+1)*sz≤rows.length*sz:=bO _ hil
   rw[cP] at this;omega
  have oe:rows.length*sz≤cur.size:=by rw[h5];exact bO _ h3
  have hst:=run_storeCells_at P g (i*sz+off) e v.cells.toList 0 cur w h2 (by omega) (fun u hu=>bC.1 h1 u hu)
  rw[fc]
  refine⟨w.setRow g (List.take (i*sz+off+0) cur.toList++v.cells.toList++List.drop (i*sz+off+0+v.cells.toList.length) cur.toList).toArray,Im ?_,?_,?_⟩
  ·cases ku:P.info? T with
   | none=>rw[ku] at hT;cases hT
   | some inf =>
    rw[ku] at hT
    simp only[cE,aD] at hT
    simp[Instr.storeAt,Instr.sureAddr,storeVar,sizeOf,typeInfo,ku,hT,hv,hst]
  ·have bq:∀ r'∈rows.set i (upd r off v.cells.toList),r'.size=sz:=fun r' hr'=>by
    rcases List.mem_or_eq_of_mem_set hr' with h|rfl
    ·exact ho.each r' h
    ·rw[SK (by omega)];exact hrs
   refine .inr ⟨g,_,rfl,ho.pos,setRow_heap w g cur _ e _ h2,by simpa using h3,h4,?_,?_,bq,by simpa using ho.short⟩
   ·simp only[dN,aI,bG,bU,aX,hv]
    omega
   ·rw[aQ]
    have hfs:=ML rows i r off v.cells.toList ho.each hi (by omega)
    rw[← hfs,← h6]
    simp only[bI]
    exact HO _ _ _ _ (by omega) (by rw[aX];omega)
  ·exact⟨rfl,rfl,rfl,by simp[World.setRow],fun k _ hk=>setRow_other w g k _ (fun e=>hk ⟨ho.pos,_,rfl,e.symm⟩),aR _⟩
theorem X5 {P:Program} {w0:Ctx} {M:Mem} {T n e sz cap off i:Nat} {A:Option Addr} {rows:List (Array Value)} {r:Array Value} (v:Value) (j:Nat) (rows':List (Array Value)) (hj:M[j]?=some (.inr (Own A cap e sz rows))) (hi:rows[i]?=some r)
  (hT:((P.info? T).map (·.size))=some n) (hv:v.cells.size=n) (hle:Nat.ble (off+n) sz=true) (h1:v.cells.toList.all Value.oneCell'=true) (tv:rows.set i (upd r off v.cells.toList)=rows') (w:World) (hM:Sat w0 M w) :
  ∃ (_:Unit) (w':World),(sU (Instr.storeAt T (.pointer (some (((A.getD Y4).add (i*sz)).add off))) v)).run P w=.ok .skip w'∧Sat w0 (M.set j (.inr (Own A cap e sz rows'))) w':=by
 obtain⟨w',h2,h3,h4⟩:=DN (P:=P) v (hM.own_at j hj) hi hT hv hle h1
 subst tv
 exact⟨(),w',h2,hM.step hj h4 h3 (fun b hb=>.inl hb)⟩
theorem Qn {α:Type} {c:α→Array Value} {l:List α} {i:Nat} {x:α} {r:Array Value} (h:r=c x):(l.map c).set i r=(l.set i x).map c:=by rw[List.map_set,h]
theorem Sat.takerow {w0:Ctx} {w:World} {M:Mem} {A:Option Addr} {cap:Nat} {e:TypeId} {sz:Nat} {rows:List (Array Value)} (n:Nat) (h:Sat w0 M w) (j:Nat) (hj:M[j]?=some (.inr (Own A cap e sz rows))) (hn:n≤rows.length) :
  Sat w0 (M.set j (.inr (Own A cap e sz (rows.take n)))) w:=by
 have ho:=h.own_at j hj
 refine h.step hj (Chg.refl _ _) ?_ (fun b hb=>.inl hb)
 rcases ho with ⟨rfl,rfl⟩|⟨g,cur,ho⟩
 ·rw[List.take_nil];exact Ul.nil A e sz w
 ·have hl:(rows.take n).length=n:=by rw[bG];omega
  have:=ho.short
  have:=ho.le
  refine .inr ⟨g,cur,ho.at_,ho.pos,ho.heap,by omega,ho.max,ho.size,?_,fun r hr=>ho.each r (List.mem_of_mem_take hr),by omega⟩
  rw[hl,← Hw rows n ho.each,← ho.holds,gN]
  congr 1
  exact(dO (bO _ hn)).symm
structure Sl (α:Type) where
 A:Option Addr
 cap:Nat
 l:List α
def Sl.v {α:Type} (s:Sl α):Value:=.slice s.A s.l.length s.cap
def Sl.c {α:Type} (s:Sl α):Array Value:=#[.slice s.A s.l.length s.cap]
def Sl.zero {α:Type}:Sl α:=⟨none,0,[]⟩
theorem Sl.one {α:Type} (s:Sl α):s.c.toList.all Value.oneCell'=true:=rfl
structure Sl.rd {α:Type} (w:World) (sz:Nat) (c:α→Array Value) (s:Sl α):Prop where
 rd:Rd w sz s.A (s.l.map c)
 le:s.l.length≤s.cap
theorem Sl.rd.below {α:Type} {w w':World} {sz:Nat} {c:α→Array Value} {s:Sl α} (h:s.rd w sz c) (hb:Below w.heap.size w w'):s.rd w' sz c:=⟨h.rd.below hb,h.le⟩
theorem Sl.rd.sat {α:Type} {w w':World} {M:Mem} {sz:Nat} {c:α→Array Value} {s:Sl α} (h:s.rd w sz c) (hM:Sat (cx w) M w'):s.rd w' sz c:=h.below hM.below
theorem Sl.rd_zero {α:Type} (w:World) (sz:Nat) (c:α→Array Value):(Sl.zero:Sl α).rd w sz c:=⟨Rd.nil w sz,by simp[Sl.zero]⟩
def Bag {α:Type} (e:TypeId) (sz:Nat) (c:α→Array Value) (l:List (Sl α)):Res where
 foot b:=∃ s∈l,(Own s.A s.cap e sz (s.l.map c)).foot b
 holds w:=∀ s∈l,Ul s.A s.cap e sz (s.l.map c) w
 lt w h b hb:=by
  obtain⟨s,hs,hf⟩:=hb
  exact(Own s.A s.cap e sz (s.l.map c)).lt w (h s hs) b hf
 kept w w' h hk:=fun s hs=>(Own s.A s.cap e sz (s.l.map c)).kept w w' (h s hs) fun b hb=>hk b ⟨s,hs,hb⟩
theorem Ul.sl {α:Type} {w:World} {e sz:Nat} {c:α→Array Value} {s:Sl α} (h:Ul s.A s.cap e sz (s.l.map c) w):s.rd w sz c:=⟨h.rd,by have:=h.le;rwa [aF] at this⟩
theorem Sat.bag_at {α:Type} {w0:Ctx} {w:World} {M:Mem} {e sz:Nat} {c:α→Array Value} {l:List (Sl α)} (h:Sat w0 M w) (j:Nat) (hj:M[j]?=some (.inr (Bag e sz c l))):∀ s∈l,s.rd w sz c:=fun s hs=>(h.res hj s hs).sl
theorem OW {α:Type} {p:α→Prop}:∀ s∈([]:List α),p s:=fun _ h=>by cases h
theorem all_cons {α:Type} {p:α→Prop} {a:α} {l:List α} (h:p a) (hl:∀ s∈l,p s):∀ s∈a::l,p s:=fun s hs=>by
 rcases bA.1 hs with rfl|hs
 ·exact h
 ·exact hl s hs
theorem Sat.bag_nil {α:Type} {w0:Ctx} {w:World} {M:Mem} (e sz:Nat) (c:α→Array Value) (h:Sat w0 M w):Sat w0 (.inr (Bag e sz c ([]:List (Sl α)))::M) w :=
 h.push (Below.refl _ _) _ (fun s hs=>by cases hs) (fun b hb=>by obtain⟨s,hs,_⟩:=hb;cases hs)
theorem Sat.recast {w0:Ctx} {w:World} {Mp Mr Mn:Mem} (h:Sat w0 (Mp++Mr) w) (hh:∀ e∈Mn,VV e w) (hf:∀ e∈Mn,∀ b,VF e b→XS Mp b) (ha:Mn.Pairwise US):Sat w0 (Mn++Mr) w :=
 h.call ⟨Chg.refl _ _,fun e he=>⟨hh e he,fun b hb=>.inl (hf e he b hb)⟩,ha⟩
theorem Sat.bag_add {α:Type} {w0:Ctx} {w:World} {M:Mem} {e sz:Nat} {c:α→Array Value} {l:List (Sl α)} {A:Option Addr} {cap:Nat} {x:List α} (h:Sat w0 (.inr (Own A cap e sz (x.map c))::.inr (Bag e sz c l)::M) w) :
  Sat w0 (.inr (Bag e sz c (l ++ [⟨A,cap,x⟩]))::M) w:=by
 refine Sat.recast (Mp:=[.inr (Own A cap e sz (x.map c)),.inr (Bag e sz c l)]) (Mn:=[.inr (Bag e sz c (l ++ [⟨A,cap,x⟩]))]) h ?_ ?_ (by simp)
 ·intro e' he
  rw[aV] at he
  subst he
  intro s hs
  rcases bD.1 hs with hs|hs
  ·exact h.res (j:=1) rfl s hs
  ·rw[aV] at hs
   subst hs
   exact h.own_at 0 rfl
 ·intro e' he b hb
  rw[aV] at he
  subst he
  obtain⟨s,hs,hf⟩:=hb
  rcases bD.1 hs with hs|hs
  ·exact⟨_,aJ _ (aM ..),s,hs,hf⟩
  ·rw[aV] at hs
   subst hs
   exact⟨_,aM ..,hf⟩
end Go.Eng
end
section
namespace Go.Eng
def upS (S:Nat→Bool) (j:Nat):Nat→Bool:=fun k=>bif Nat.beq k j then true else S k
theorem WN (S:Nat→Bool) (j:Nat):upS S j j=true:=by simp[upS]
theorem mS2 {S:Nat→Bool} {a0 a1:Nat} {x0 x1:Bool} (h0:S a0=x0) (h1:S a1=x1):List.map S [a0,a1]=[x0,x1]:=by subst h0 h1;rfl
theorem mS3 {S:Nat→Bool} {a0 a1 a2:Nat} {x0 x1 x2:Bool} (h0:S a0=x0) (h1:S a1=x1) (h2:S a2=x2):List.map S [a0,a1,a2]=[x0,x1,x2]:=by subst h0 h1 h2;rfl
theorem mS4 {S:Nat→Bool} {a0 a1 a2 a3:Nat} {x0 x1 x2 x3:Bool} (h0:S a0=x0) (h1:S a1=x1) (h2:S a2=x2) (h3:S a3=x3):List.map S [a0,a1,a2,a3]=[x0,x1,x2,x3]:=by subst h0 h1 h2 h3;rfl
theorem UW (S:Nat→Bool) {j k:Nat} (h:k≠j):upS S j k=S k:=by
 have:Nat.beq k j=false:=by
  cases hb:Nat.beq k j with
  | false=>rfl
  | true=>exact absurd (bE hb) h
 simp[upS,this]
def aft (o:Oper):List Nat:=(o.after.toList.filter (Region.binds .any)).map (·.on)
def Io (o:Oper):List Nat:=o.op.operands.toList.filterMap fun x=>match x with|.tmp t=>some t|_=>none
def EX (ops:List Oper) (o:Oper):List Nat:=match o.guard with
 | none=>[]
 | some (j,_)=>match (ops[j]?).bind (·.dst) with|some d=>[d]|none=>[]
def seen (ops:List Oper) (o:Oper):List Nat:=Io o++EX ops o
def SL (t:Nat) (o:Oper):Bool:=match o.dst with|some d=>Nat.beq d t|none=>false
def VH (ops:List Oper) (t:Nat):List Nat:=(List.range ops.length).filter fun i=>match ops[i]? with|some o=>SL t o|none=>false
def QB (ops:List Oper) (i:Nat):List Nat:=match ops[i]? with|some o=>aft o|none=>[]
def SN (ops:List Oper) (base:List Nat) (j:Nat) (o:Oper) (t:Nat):Bool :=
 bif base.contains t then (VH ops t).all (fun i=>!(Nat.beq i j)&&(QB ops i).contains j)
 else match VH ops t with
  | [i]=>(aft o).contains i
  | _=>false
def BF (ops:List Oper) (base:List Nat):Bool :=
 (List.range ops.length).all fun j=>match ops[j]? with
  | some o=>!KZ o.op&&(seen ops o).all (SN ops base j o)&&(match o.dst with|some d=>(match VH ops d with | [_]=>true|_=>false)|none=>true)
  | none=>false
theorem Jf {ops:List Oper} {t i:Nat}:i∈VH ops t↔∃ o,ops[i]?=some o∧o.dst=some t:=by
 unfold VH
 rw[gJ,dU]
 constructor
 ·rintro⟨hi,h⟩
  rw[aS hi] at h
  refine⟨ops[i],aS hi,?_⟩
  simp only[SL] at h
  split at h
  ·rename_i d hd;rw[hd,bE h]
  ·cases h
 ·rintro⟨o,ho,hd⟩
  refine⟨(aK.1 ho).1,?_⟩
  rw[ho]
  simp[SL,hd]
structure Kn (n:Nat) (ops:List Oper) (base:ZJ) (vals:List Value) (S:Nat→Bool) (a:Act):Prop where
 size:a.tmps.size=n
 defers:a.defers=[]
 old:∀ t v,look t base=some v→(∀ i∈VH ops t,S i=false)→a.tmps[t]?=some v
 new:∀ i o d,ops[i]?=some o→o.dst=some d→S i=true→a.tmps[d]?=vals[i]?
def Be:List Oper→List Value→ZJ
 | o::os,v::vs=>match o.dst with|some d=>(d,v)::Be os vs|none=>Be os vs
 | _,_=>[]
def UX (ops:List Oper) (base:ZJ) (vals:List Value):ZJ:=base++Be ops vals
theorem G0 (t:Nat):∀ (F G:ZJ),look t (F++G)=match look t F with|some v=>some v|none=>look t G
 | [],G=>rfl
 | (k,v)::F,G=>by
  by_cases e:k=t
  ·subst e;rw[eE,YI,YI]
  ·rw[eE,YV v _ e,YV v _ e];exact G0 t F G
theorem Hy:∀ (os:List Oper) (vs:List Value) (t i:Nat),vs.length=os.length→(∃ o,os[i]?=some o∧o.dst=some t)→(∀ k o,os[k]?=some o→o.dst=some t→k=i)→look t (Be os vs)=vs[i]?
 | [],_,t,i,_,⟨o,ho,_⟩,_=>by simp at ho
 | o0::os,[],t,i,hl,_,_=>by simp at hl
 | o0::os,v::vs,t,0,hl,⟨o,ho,hd⟩,hu=>by
  simp only[cG,aD] at ho
  subst ho
  simp only[Be,hd,YI,cG]
 | o0::os,v::vs,t,i+1,hl,⟨o,ho,hd⟩,hu=>by
  simp only[cH] at ho ⊢
  have ih:=Hy os vs t i (by simpa using hl) ⟨o,ho,hd⟩ fun k o hk hd=>by
   have:=hu (k+1) o (by simpa using hk) hd;omega
  simp only[Be]
  cases h0:o0.dst with
  | none=>exact ih
  | some d =>
   simp only
   by_cases e:d=t
   ·subst e
    have:=hu 0 o0 rfl h0;omega
   ·rw[YV v _ e];exact ih
section
variable {P:Program} {n:Nat} {ops:Array Oper} {base:ZJ} {vals:List Value} {S:Nat→Bool} {a:Act}
def need (F:ZJ) (ts:List Nat):ZJ:=ts.filterMap fun t=>(look t F).map fun v=>(t,v)
theorem GP (F:ZJ):∀ (ts:List Nat) (t:Nat) (v:Value),look t (need F ts)=some v→look t F=some v∧t∈ts
 | [],t,v,h=>by cases h
 | s::ts,t,v,h=>by
  unfold need at h
  rw[fT] at h
  cases hs:look s F with
  | none =>
   rw[hs] at h
   obtain⟨h1,h2⟩:=GP F ts t v h
   exact⟨h1,aJ _ h2⟩
  | some u =>
   rw[hs] at h
   simp only[cE] at h
   by_cases e:s=t
   ·subst e
    rw[YI] at h
    exact⟨hs.trans h,aM ..⟩
   ·rw[YV _ _ e] at h
    obtain⟨h1,h2⟩:=GP F ts t v h
    exact⟨h1,aJ _ h2⟩
theorem K5 (F:ZJ):∀ (ts:List Nat) (t:Nat),t∈ts→look t (need F ts)=look t F
 | [],t,h=>by cases h
 | s::ts,t,h=>by
  unfold need
  rw[fT]
  by_cases e:s=t
  ·subst e
   cases hs:look s F with
   | none =>
    simp only[Option.map_none]
    by_cases hm:s∈ts
    ·exact(K5 F ts s hm).trans hs
    ·cases hc:look s (List.filterMap (fun t=>(look t F).map fun v=>(t,v)) ts) with
     | none=>rfl
     | some v=>exact absurd (GP F ts s v hc).2 hm
   | some u=>simp only[cE,YI]
  ·have hm:t∈ts:=by rcases bA.1 h with h|h;(exact absurd h.symm e);exact h
   cases hs:look s F with
   | none=>exact K5 F ts t hm
   | some u=>simp only[cE];rw[YV _ _ e];exact K5 F ts t hm
theorem Wm (t:Nat):∀ (F:ZJ),(look t F).isSome=(F.map Prod.fst).contains t
 | []=>rfl
 | (k,v)::F=>by
  by_cases e:k=t
  ·subst e;rw[YI];simp
  ·rw[YV v _ e,Wm t F]
   simp[Ne.symm e]
theorem Hz (hB:BF ops.toList (base.map Prod.fst)=true) {j:Nat} {o:Oper} (ho:ops.toList[j]?=some o):KZ o.op=false∧∀ t∈seen ops.toList o,SN ops.toList (base.map Prod.fst) j o t=true:=by
 have hb:=bC.1 hB j (dU.2 (aK.1 ho).1)
 rw[ho] at hb
 simp only[aW,eK] at hb
 exact⟨hb.1.1,bC.1 hb.1.2⟩
theorem Fo (hl:vals.length=ops.toList.length) (hB:BF ops.toList (base.map Prod.fst)=true) {j:Nat} {o:Oper} (ho:ops.toList[j]?=some o) {t:Nat} (ht:t∈seen ops.toList o) :
  (∃ v,look t base=some v∧look t (UX ops.toList base vals)=some v∧∀ i∈VH ops.toList t,i≠j∧j∈QB ops.toList i) ∨
  (look t base=none∧∃ i o' v,ops.toList[i]?=some o'∧o'.dst=some t∧i∈aft o∧vals[i]?=some v∧look t (UX ops.toList base vals)=some v):=by
 have hs:=(Hz hB ho).2 t ht
 unfold SN at hs
 rw[← Wm] at hs
 unfold UX
 rw[G0]
 cases hb:look t base with
 | some v =>
  rw[hb] at hs
  simp only[Option.isSome_some,cond_true] at hs
  refine .inl ⟨v,rfl,rfl,fun i hi=>?_⟩
  have:=bC.1 hs i hi
  simp only[aW,eK,List.contains_iff_mem] at this
  exact⟨fun e=>by subst e;simp at this,this.2⟩
 | none =>
  rw[hb] at hs
  simp only[Option.isSome_none,cond_false] at hs
  split at hs
  ·rename_i i hw
   obtain⟨o',h1,h2⟩:=Jf.1 (show i∈VH ops.toList t by rw[hw];exact aM ..)
   have hil:=(aK.1 h1).1
   have hv:vals[i]?=some vals[i]:=aS (by omega)
   refine .inr ⟨rfl,i,o',_,h1,h2,by simpa using hs,hv,?_⟩
   simp only
   rw[Hy ops.toList vals t i hl ⟨o',h1,h2⟩ (fun k o2 hk hd=>?_)]
   ·exact hv
   ·have:=Jf.2 ⟨o2,hk,hd⟩
    rw[hw] at this
    simpa using this
  ·cases hs
theorem Kn.fr (h:Kn n ops.toList base vals S a) (hl:vals.length=ops.toList.length) (hB:BF ops.toList (base.map Prod.fst)=true) {j:Nat} {o:Oper} (ho:ops.toList[j]?=some o) (hj:S j=false)
  (hd:∀ e∈aft o,S e=true) (hc:∀ i o',ops.toList[i]?=some o'→S i=true→∀ e∈aft o',S e=true):Fr n (need (UX ops.toList base vals) (seen ops.toList o)) a:=by
 refine⟨h.size,h.defers,fun t v ht=>?_⟩
 obtain⟨h1,h2⟩:=GP _ _ _ _ ht
 rcases Fo hl hB ho h2 with ⟨u,hb,hu,hw⟩|⟨hb,i,o',u,hi,fe,hia,hv,hu⟩
 ·rw[h1] at hu
  simp only[aD] at hu
  subst hu
  refine h.old t v hb fun i hi=>?_
  obtain⟨o',h3,h4⟩:=Jf.1 hi
  cases hSi:S i with
  | false=>rfl
  | true =>
   have:=(hw i hi).2
   unfold QB at this
   rw[h3] at this
   have:=hc i o' h3 hSi j this
   rw[hj] at this;cases this
 ·rw[h1] at hu
  simp only[aD] at hu
  subst hu
  exact(h.new i o' t hi fe (hd i hia)).trans hv
theorem LY (hl:vals.length=ops.toList.length) (hB:BF ops.toList (base.map Prod.fst)=true) {j:Nat} {o:Oper} (ho:ops.toList[j]?=some o) :
  o.op.operands.toList.all (known (need (UX ops.toList base vals) (seen ops.toList o)))=true:=by
 refine bC.2 fun x hx=>?_
 cases x with
 | tmp t =>
  have ht:t∈seen ops.toList o:=cL _ (List.mem_filterMap.2 ⟨_,hx,rfl⟩)
  simp only[known]
  rw[K5 _ _ _ ht]
  rcases Fo hl hB ho ht with ⟨u,_,hu,_⟩|⟨_,_,_,u,_,_,_,_,hu⟩ <;> rw[hu] <;> rfl
 | const v=>rfl
 | global g=>rfl
 | func f=>rfl
theorem SO {o:Oper} {x:Operand} (hx:x∈o.op.operands.toList) (F:ZJ):rho (need F (seen ops.toList o)) x=rho F x:=by
 cases x with
 | tmp t =>
  have ht:t∈seen ops.toList o:=cL _ (List.mem_filterMap.2 ⟨_,hx,rfl⟩)
  simp only[rho]
  rw[K5 _ _ _ ht]
 | const v=>rfl
 | global g=>rfl
 | func f=>rfl
theorem BG (o:Oper) (F:ZJ):UB ops.toList (need F (seen ops.toList o)) o=UB ops.toList F o:=by
 unfold UB
 cases hg:o.guard with
 | none=>rfl
 | some p =>
  obtain⟨j,want⟩:=p
  simp only
  cases hd:(ops.toList[j]?).bind (·.dst) with
  | none=>rfl
  | some d =>
   have ht:d∈seen ops.toList o:=eI _ (by unfold EX;rw[hg];simp only[hd];exact aM ..)
   simp only
   rw[K5 _ _ _ ht]
end
def UC (P:Program) (s:Sem Next) (w:World) (K:Value→World→Prop):Prop :=
 match s.run P w with
 | .ok (.value u) w'=>K u w'
 | .ok .skip w'=>K undef w'
 | .ok (.enter f args) w'=>Calls P f args w' (fun e w''=>∃ u,e=.returned u∧K u w'')
 | _=>False
def FV {G:Type} (P:Program) (w0:Ctx) (ops:Array Oper) (base:ZJ) (vals:G→List Value) (writes:List Nat) (mem:List Bool→G→Mem) (j:Nat) (o:Oper):Prop :=
 ∀ (S:Nat→Bool) (γ:G) (w:World),S j=false→(∀ e∈aft o,S e=true)→(∀ i o',ops.toList[i]?=some o'→S i=true→∀ e∈aft o',S e=true)→Sat w0 (mem (writes.map S) γ) w →
  match UB ops.toList (UX ops.toList base (vals γ)) o with
  | some true=>UC P (execOp (rho (UX ops.toList base (vals γ))) o) w (fun u w'=>∃ γ',(∀ i:Nat,S i=true→(vals γ')[i]?=(vals γ)[i]?)∧(vals γ')[j]?=some u∧Sat w0 (mem (writes.map (upS S j)) γ') w')
  | some false=>(vals γ)[j]?=some undef∧Sat w0 (mem (writes.map (upS S j)) γ) w
  | none=>False
def Steps {G:Type} (P:Program) (w0:Ctx) (ops:Array Oper) (base:ZJ) (vals:G→List Value) (writes:List Nat) (mem:List Bool→G→Mem):List Oper→Nat→Prop
 | [],_=>True
 | o::r,j=>FV P w0 ops base vals writes mem j o∧Steps P w0 ops base vals writes mem r (j+1)
section
variable {G:Type} {P:Program} {n:Nat} {w0:Ctx} {ops:Array Oper} {base:ZJ} {vals:G→List Value} {writes:List Nat} {mem:List Bool→G→Mem}
theorem Steps.get:∀ {l:List Oper} {i:Nat},Steps P w0 ops base vals writes mem l i→∀ k o,l[k]?=some o→FV P w0 ops base vals writes mem (i+k) o
 | [],_,_,k,o,hk=>by simp at hk
 | o0::l,i,h,0,o,hk=>by
  simp only[cG,aD] at hk
  subst hk
  exact h.1
 | o0::l,i,h,k+1,o,hk=>by
  simp only[cH] at hk
  have:=h.2.get k o hk
  rwa [show i+1+k=i+(k+1) by omega] at this
def left (S:Nat→Bool):Nat→Nat
 | 0=>0
 | N+1=>left S N+bif S N then 0 else 1
theorem CC (S:Nat→Bool) (j:Nat) (hj:S j=false):∀ N,(j<N→left (upS S j) N+1=left S N)∧(N≤j→left (upS S j) N=left S N)
 | 0=>⟨fun h=>absurd h (cF _),fun _=>rfl⟩
 | N+1=>by
  obtain⟨h1,h2⟩:=CC S j hj N
  constructor
  ·intro h
   simp only[left]
   by_cases e:j=N
   ·subst e
    rw[h2 (aR _),WN,hj];simp
   ·rw[UW S (show N≠j from fun h=>e h.symm)]
    have:=h1 (by omega)
    omega
  ·intro h
   simp only[left]
   rw[h2 (by omega),UW S (show N≠j by omega)]
theorem GQ (S:Nat→Bool):∀ N,left S N=0→∀ k,k<N→S k=true
 | 0,_,k,hk=>absurd hk (cF _)
 | N+1,h,k,hk=>by
  simp only[left] at h
  by_cases e:k=N
  ·subst e
   cases hS:S k with
   | true=>rfl
   | false=>rw[hS] at h;simp at h
  ·exact GQ S N (by omega) k (by omega)
theorem BH (S:Nat→Bool):∀ N,left S N≠0→∃ k,k<N∧S k=false∧∀ i,i<k→S i=true
 | 0,h=>absurd rfl h
 | N+1,h=>by
  by_cases h0:left S N=0
  ·have:=GQ S N h0
   refine⟨N,cT _,?_,this⟩
   simp only[left,h0] at h
   cases hS:S N with
   | false=>rfl
   | true=>rw[hS] at h;simp at h
  ·obtain⟨k,h1,h2,h3⟩:=BH S N h0
   exact⟨k,by omega,h2,h3⟩
def FW (ops:List Oper) (writes:List Nat):Bool :=
 ((List.range ops.length).all fun j=>(QB ops j).all fun e=>Nat.blt e j)&&writes.all (fun k=>Nat.blt k ops.length)
theorem SQ {Q:Exit→Act→World→Prop} (hB:BF ops.toList (base.map Prod.fst)=true) (hO:FW ops.toList writes=true) (hl:∀ γ,(vals γ).length=ops.toList.length)
  (hD:(ops.toList.all fun o=>match o.dst with|some d=>Nat.blt d n|none=>true)=true) (hs:∀ j o,ops.toList[j]?=some o→FV P w0 ops base vals writes mem j o)
  (br:∀ γ a w,(∀ S:Nat→Bool,(∀ k,k<ops.size→S k=true)→Kn n ops.toList base (vals γ) S a)→Sat w0 (mem (writes.map fun _=>true) γ) w→Q .normal a w) :
  ∀ (f:Nat) (listed:Array Bool) (S:Nat→Bool) (γ:G) (a:Act) (w:World),listed.size=ops.size→(∀ k,k<ops.size→∀ d,listed.getD k d=S k)→(∀ i o',ops.toList[i]?=some o'→S i=true→∀ e∈aft o',S e=true) →
   left S ops.size≤f→Kn n ops.toList base (vals γ) S a→Sat w0 (mem (writes.map S) γ) w→wpAny P .any ops Q f listed a w:=by
 simp only[FW,aW] at hO
 have hlt:∀ j o,ops.toList[j]?=some o→∀ e∈aft o,e<j:=fun j o ho e he=>by
  have:=bC.1 hO.1 j (dU.2 (aK.1 ho).1)
  unfold QB at this
  rw[ho] at this
  exact aL (bC.1 this e he)
 have tw:∀ (S:Nat→Bool) (γ:G) (a:Act) (w:World),left S ops.size=0→Kn n ops.toList base (vals γ) S a→Sat w0 (mem (writes.map S) γ) w→Q .normal a w:=fun S γ a w h0 hK hM=>by
  have ja:=GQ S _ h0
  have hwr:writes.map S=writes.map fun _=>true:=List.map_congr_left fun k hk=>ja k (by have:=aL (bC.1 hO.2 k hk);simp at this;omega)
  rw[hwr] at hM
  refine br γ a w (fun S' hS'=>⟨hK.size,hK.defers,fun t v ht hw=>hK.old t v ht fun i hi=>?_,fun i o d ho hd _=>hK.new i o d ho hd ?_⟩) hM
  ·obtain⟨o,ho,_⟩:=Jf.1 hi
   have:=hw i hi
   rw[hS' i (by have:=(aK.1 ho).1;simpa using this)] at this
   cases this
  ·exact ja i (by have:=(aK.1 ho).1;simpa using this)
 have s7:∀ (listed:Array Bool) (S:Nat→Bool),listed.size=ops.size→(∀ k,k<ops.size→∀ d,listed.getD k d=S k)→Region.ready .any ops listed=[]→left S ops.size=0:=fun listed S hsz hg hr=>by
  rcases bM (left S ops.size) with h|h
  ·exact h
  ·obtain⟨k,h1,h2,h3⟩:=BH S ops.size (by omega)
   have hk:ops[k]?=some ops[k]:=bW h1
   have hm:k∈Region.ready .any ops listed:=mem_ready.2 ⟨by rw[hg k h1,h2],_,hk,fun e he hb=>by
    have hea:e.on∈aft ops[k]:=bT.2 ⟨e,gJ.2 ⟨by simpa using he,hb⟩,rfl⟩
    have:=hlt k _ (by rw[aZ];exact hk) e.on hea
    rw[hg _ (by omega)]
    exact h3 _ this⟩
   rw[hr] at hm;cases hm
 intro f
 induction f with
 | zero =>
  intro listed S γ a w hsz hg hc hf hK hM
  have h0:left S ops.size=0:=by omega
  refine⟨?_,tw S γ a w h0 hK hM⟩
  refine List.eq_nil_iff_forall_not_mem.2 fun i hi=>?_
  obtain⟨h1,o,ho,_⟩:=mem_ready.1 hi
  have hil:=(bY.1 ho).1
  rw[hg i hil,GQ S _ h0 i hil] at h1
  cases h1
 | succ f ih =>
  intro listed S γ a w hsz hg hc hf hK hM
  refine⟨fun hr=>tw S γ a w (s7 listed S hsz hg hr) hK hM,fun i hi=>?_⟩
  obtain⟨h1,o,ho,tz⟩:=mem_ready.1 hi
  have hil:=(bY.1 ho).1
  have hSi:S i=false:=by rw[← hg i hil true];exact h1
  have ho':ops.toList[i]?=some o:=by simpa using ho
  have hd:∀ e∈aft o,S e=true:=fun e he=>by
   obtain⟨e',he',rfl⟩:=bT.1 he
   obtain⟨he1,he2⟩:=gJ.1 he'
   have og:=hlt i o ho' _ he
   rw[← hg _ (by omega) false]
   exact tz e' (by simpa using he1) he2
  have hFr:=hK.fr (hl γ) hB ho' hSi hd hc
  have lf:execOp a.eval o=execOp (rho (UX ops.toList base (vals γ))) o:=by
   rw[Wx hFr o (LY (hl γ) hB ho') (Hz hB ho').1]
   exact execOp_congr o (fun cs b e=>by have:=(Hz hB ho').1;rw[e] at this;cases this) fun x hx=>SO (by simpa using hx) _
  have hst:=hs i o ho' S γ w hSi hd hc hM
  have next:∀ (u:Value) (γ':G) (w':World),(∀ k:Nat,S k=true→(vals γ')[k]?=(vals γ)[k]?)→(vals γ')[i]?=some u→Sat w0 (mem (writes.map (upS S i)) γ') w'→wpAny P .any ops Q f (listed.setIfInBounds i true) (a.put o.dst u) w':=by
   intro u γ' w' hag hu hM'
   refine ih _ (upS S i) γ' _ w' (by rw[Array.size_setIfInBounds];exact hsz) (fun k hk d=>?_) (fun k o2 hk hSk e he=>?_) ?_ ?_ hM'
   ·by_cases e:k=i
    ·subst e;rw[WN];simp[hsz,hk]
    ·rw[UW S e,getD_set_ne d (Ne.symm e)];exact hg k hk d
   ·by_cases e1:k=i
    ·subst e1
     rw[ho'] at hk
     simp only[aD] at hk
     subst hk
     have:=hlt k o ho' e he
     rw[UW S (by omega)]
     exact hd e he
    ·rw[UW S e1] at hSk
     have hSe:=hc k o2 hk hSk e he
     by_cases e2:e=i
     ·subst e2;rw[hSi] at hSe;cases hSe
     ·rw[UW S e2];exact hSe
   ·have:=(CC S i hSi ops.size).1 hil
    omega
   ·have lh:∀ d,o.dst=some d→∀ k o2,ops.toList[k]?=some o2→o2.dst=some d→k=i:=fun d hd0 k o2 hk hd2=>by
     have hb:=bC.1 hB i (dU.2 (by simpa using hil))
     rw[ho'] at hb
     simp only[aW,hd0] at hb
     have hb2:=hb.2
     split at hb2
     ·rename_i q hq
      have m1:=Jf.2 ⟨o,ho',hd0⟩
      have m2:=Jf.2 ⟨o2,hk,hd2⟩
      rw[hq] at m1 m2
      simp only[aV] at m1 m2
      omega
     ·cases hb2
    refine⟨by rw[← hK.size];cases o.dst <;> simp[Act.put],by rw[← hK.defers];cases o.dst <;> simp[Act.put],fun t v ht hw=>?_,fun k o2 d hk hd2 hSk=>?_⟩
    ·have hne:o.dst≠some t:=fun e=>by
      have:=hw i (Jf.2 ⟨o,ho',e⟩)
      rw[WN] at this;cases this
     have hold:=hK.old t v ht fun k hk=>by
      have:=hw k hk
      by_cases e:k=i
      ·subst e;rw[WN] at this;cases this
      ·rwa [UW S e] at this
     cases fe:o.dst with
     | none=>simpa[Act.put] using hold
     | some d =>
      have:d≠t:=fun e=>hne (by rw[fe,e])
      simpa[Act.put,Array.getElem?_setIfInBounds_ne this] using hold
    ·by_cases e:k=i
     ·subst e
      rw[ho'] at hk
      simp only[aD] at hk
      subst hk
      rw[hd2,hu]
      have hdn:=bC.1 hD o (aH ho')
      rw[hd2] at hdn
      have hdn:d<n:=aL hdn
      simp[Act.put,hK.size,hdn]
     ·rw[UW S e] at hSk
      have lj:=(hK.new k o2 d hk hd2 hSk).trans (hag k hSk).symm
      cases fe:o.dst with
      | none=>simpa[Act.put] using lj
      | some d' =>
       have:d'≠d:=fun e2=>e (lh d' fe k o2 hk (by rw[hd2,e2]))
       simpa[Act.put,Array.getElem?_setIfInBounds_ne this] using lj
  unfold wpOp
  simp only[ho]
  split at hst
  ·rename_i hgv
   have hw:=QF hFr ((BG o _).trans hgv)
   rw[if_pos hw]
   refine .inl ?_
   unfold UC at hst
   rw[← lf] at hst
   unfold Oper.wp
   generalize (execOp a.eval o).run P w=r at hst
   cases r with
   | ok x w' =>
    cases x <;> simp only at hst <;> simp only[Oper.upon]
    case value u=>obtain⟨γ',q1,q2,q3⟩:=hst;exact next _ γ' w' q1 q2 q3
    case skip=>obtain⟨γ',q1,q2,q3⟩:=hst;exact next _ γ' w' q1 q2 q3
    case enter g args=>exact hst.mono fun e w'' ⟨u,he,γ',q1,q2,q3⟩=>by subst he;exact next _ γ' w'' q1 q2 q3
   | halt x w'=>simp only at hst
  ·rename_i hgv
   have hw:=QF hFr ((BG o _).trans hgv)
   rw[hw]
   simp only[eY,if_false]
   exact next _ γ w (fun _ _=>rfl) hst.1 hst.2
  ·exact hst.elim
theorem OX {F:ZJ} {M:Mem} {Q:Exit→Act→World→Prop} (γ0:G) (Fe:G→ZJ) (hb:pick (base.map Prod.fst) F=some base) (hB:BF ops.toList (base.map Prod.fst)=true) (hO:FW ops.toList writes=true)
  (hD:(ops.toList.all fun o=>match o.dst with|some d=>Nat.blt d n|none=>true)=true) (hl:∀ γ,Nat.beq (vals γ).length ops.toList.length=true)
  (h0:∀ w,Sat w0 M w→Sat w0 (mem (writes.map fun _=>false) γ0) w) (he:∀ γ,pick ((Fe γ).map Prod.fst) (Be ops.toList (vals γ)++base)=some (Fe γ))
  (hs:Steps P w0 ops base vals writes mem (ops.toList.drop 0) 0) (k:∀ γ,TE n w0 Q .normal (Fe γ) (mem (writes.map fun _=>true) γ)):∀ a w,Fr n F a→Sat w0 M w→wpAny P .any ops Q ops.size (Array.replicate ops.size false) a { w with drawn:=w.drawn+1 }:=by
 rw[eM] at hs
 intro a w hF hM
 refine SQ hB hO (fun γ=>bE (hl γ)) hD (fun j o ho=>by have:=hs.get j o ho;rwa [bB] at this) (fun γ a' w' hK hM'=>?_) ops.size _ (fun _=>false) γ0 a _ (by simp) (fun k hk d=>by simp[hk]) (fun _ _ _ h=>by cases h) ?_ ?_ (h0 _ (hM.drawn _))
 ·have hK:=hK (fun _=>true) (fun _ _=>rfl)
  refine k γ a' w' ⟨hK.size,hK.defers,fun t v ht=>?_⟩ hM'
  have h1:=JQ _ _ _ (he γ) t v ht
  rw[G0] at h1
  by_cases hw:∃ i,i∈VH ops.toList t
  ·obtain⟨i,hi⟩:=hw
   obtain⟨o,ho,hd⟩:=Jf.1 hi
   have hu:∀ k o2,ops.toList[k]?=some o2→o2.dst=some t→k=i:=fun k o2 hk hd2=>by
    have hb:=bC.1 hB i (dU.2 (aK.1 ho).1)
    rw[ho] at hb
    simp only[aW,hd] at hb
    have hb2:=hb.2
    split at hb2
    ·rename_i q hq
     have m2:=Jf.2 ⟨o2,hk,hd2⟩
     rw[hq] at hi m2
     simp only[aV] at hi m2
     omega
    ·cases hb2
   have hln:=bE (hl γ)
   rw[Hy ops.toList (vals γ) t i hln ⟨o,ho,hd⟩ hu] at h1
   have hi2:=(aK.1 ho).1
   rw[aS (by omega)] at h1
   simp only[aD] at h1
   rw[hK.new i o t ho hd rfl,aS (by omega),h1]
  ·have hz:look t (Be ops.toList (vals γ))=none:=by
    cases hz:look t (Be ops.toList (vals γ)) with
    | none=>rfl
    | some u =>
     exfalso
     have key:∀ (os:List Oper) (vs:List Value),look t (Be os vs)=some u→∃ o∈os,o.dst=some t:=by
      intro os
      induction os with
      | nil=>intro vs h;cases vs <;> cases h
      | cons o os ih =>
       intro vs h
       cases vs with
       | nil=>cases h
       | cons v vs =>
        simp only[Be] at h
        cases hd:o.dst with
        | none =>
         rw[hd] at h
         obtain⟨o2,h2,h3⟩:=ih vs h
         exact⟨o2,aJ _ h2,h3⟩
        | some d =>
         rw[hd] at h
         simp only at h
         by_cases e:d=t
         ·subst e;exact⟨o,aM ..,hd⟩
         ·rw[YV _ _ e] at h
          obtain⟨o2,h2,h3⟩:=ih vs h
          exact⟨o2,aJ _ h2,h3⟩
     obtain⟨o,ho,hd⟩:=key _ _ hz
     obtain⟨i,hi⟩:=cQ ho
     exact hw ⟨i,Jf.2 ⟨o,hi,hd⟩⟩
   rw[hz] at h1
   exact hK.old t v h1 fun i hi=>absurd ⟨i,hi⟩ hw
 ·have:∀ N,left (fun _=>false) N=N:=fun N=>by induction N with|zero=>rfl|succ N ih=>simp[left,ih]
  rw[this];exact aR _
 ·exact⟨hF.size,hF.defers,fun t v ht _=>hF.has t v (JQ _ _ _ hb t v ht),fun _ _ _ _ _ h=>by cases h⟩
theorem Jt {F:ZJ} {M:Mem} {Q:Exit→Act→World→Prop} {id:Nat} (γ0:G) (Fe:G→ZJ) (hm:P.follows .mixedOrders=true) (hb:pick (base.map Prod.fst) F=some base) (hB:BF ops.toList (base.map Prod.fst)=true) (hO:FW ops.toList writes=true)
  (hD:(ops.toList.all fun o=>match o.dst with|some d=>Nat.blt d n|none=>true)=true) (hl:∀ γ,Nat.beq (vals γ).length ops.toList.length=true)
  (h0:∀ w,Sat w0 M w→Sat w0 (mem (writes.map fun _=>false) γ0) w) (he:∀ γ,pick ((Fe γ).map Prod.fst) (Be ops.toList (vals γ)++base)=some (Fe γ))
  (hs:Steps P w0 ops base vals writes mem (ops.toList.drop 0) 0) (k:∀ γ,TE n w0 Q .normal (Fe γ) (mem (writes.map fun _=>true) γ)):TC P n w0 Q (.region id ops true) F M :=
 fun a w hF hM=>wp_region_any hm (OX γ0 Fe hb hB hO hD hl h0 he hs k a w hF hM)
theorem Vp {F:ZJ} {j:Nat} {s:Sem Next} {d:Option Tmp} (h:semAt ops.toList F j=some (s,d)):∃ o,ops.toList[j]?=some o∧UB ops.toList F o=some true∧execOp (rho F) o=s∧o.dst=d:=by
 unfold semAt at h
 split at h
 ·rename_i o ho
  simp only[aD,aU] at h
  unfold opAt at ho
  split at ho
  ·rename_i o' ho'
   split at ho
   ·rename_i hg
    cases hb:(o'.op.operands.toList.all (known F)&&!KZ o'.op) with
    | false=>rw[hb] at ho;cases ho
    | true =>
     rw[hb] at ho
     simp only[cond_true,aD] at ho
     subst ho
     exact⟨_,ho',hg,h.1,h.2⟩
   ·cases ho
  ·cases ho
 ·cases h
theorem J9 {i:Nat} (h:∀ o,ops.toList[i]?=some o→FV P w0 ops base vals writes mem i o) (h2:Steps P w0 ops base vals writes mem (ops.toList.drop (i+1)) (i+1)):Steps P w0 ops base vals writes mem (ops.toList.drop i) i:=by
 rcases dP i ops.toList.length with hi|hi
 ·rw[eT hi]
  exact⟨h _ (aS hi),h2⟩
 ·rw[cM hi];trivial
theorem XH {i:Nat} (hi:Nat.ble ops.toList.length i=true):Steps P w0 ops base vals writes mem (ops.toList.drop i) i:=by
 rw[cM (aL hi)];trivial
theorem WO {j:Nat} (hw:writes.contains j=false) (S:Nat→Bool):writes.map (upS S j)=writes.map S :=
 List.map_congr_left fun k hk=>UW S (fun e=>by subst e;simp[hk] at hw)
def LZ (P:Program) (ops:List Oper) (M:Mem) (F:ZJ):List Oper→List Nat→Option (List Value×List (Nat×Nat))
 | [],_=>some ([],[])
 | o::r,hs=>match UB ops F o with
  | some true=>match MB P M F (hs.headD 0) o with
   | some (v,es)=>match LZ P ops M F r hs.tail with
    | some (vs,es')=>some (v::vs,es++es')
    | none=>none
   | none=>none
  | some false=>match LZ P ops M F r hs.tail with
   | some (vs,es)=>some (undef::vs,es)
   | none=>none
  | none=>none
structure OkP (r:Option (List Value×List (Nat×Nat))) (vs:List Value):Prop where
 fst:r.map Prod.fst=some vs:=by kernel_rfl
 snd:BA r=Wy r:=by kernel_rfl
theorem BI (Mr:Mem) (hv:∀ S γ w,Sat w0 (mem (writes.map S) γ) w→Sat w0 Mr w):∀ (l:List Oper) (i:Nat) (hs:List Nat) (rest:List Oper),(∀ k,k<l.length→writes.contains (i+k)=false) →
  (∀ γ,∃ vs es,LZ P ops.toList Mr (UX ops.toList base (vals γ)) l hs=some (vs,es)∧(∀ p∈es,p.1=p.2)∧∀ (k:Nat) v,vs[k]?=some v→(vals γ)[i+k]?=some v) →
  Steps P w0 ops base vals writes mem rest (i+l.length)→Steps P w0 ops base vals writes mem (l++rest) i
 | [],i,hs,rest,_,_,h=>h
 | o::l,i,hs,rest,hw,hr,h=>by
  have hw0:=hw 0 (by simp)
  rw[bI] at hw0
  refine⟨fun S γ w hSi _ _ hM=>?_,?_⟩
  ·obtain⟨vs,es,h1,h2,h3⟩:=hr γ
   rw[WO hw0]
   simp only[LZ] at h1
   split at h1
   ·rename_i hg
    try rw[hg]
    split at h1
    ·rename_i v es1 hv1
     split at h1
     ·rename_i vs2 es2 hr2
      simp only[aD,aU] at h1
      obtain⟨rfl,rfl⟩:=h1
      have ju:=h3 0 v rfl
      rw[bI] at ju
      unfold MB at hv1
      cases hb:(o.op.operands.toList.all (known (UX ops.toList base (vals γ)))&&!KZ o.op) with
      | false=>rw[hb] at hv1;cases hv1
      | true =>
       rw[hb] at hv1
       simp only[cond_true] at hv1
       unfold UC
       split at hv1
       ·rename_i u es' hm
        simp only[aD,aU] at hv1
        obtain⟨rfl,rfl⟩:=hv1
        rw[QZ (hv S γ w hM) _ _ _ hm (fun p hp=>h2 p (by simp[hp]))]
        exact⟨γ,fun _ _=>rfl,ju,hM⟩
       ·rename_i es' hm
        simp only[aD,aU] at hv1
        obtain⟨rfl,rfl⟩:=hv1
        rw[QZ (hv S γ w hM) _ _ _ hm (fun p hp=>h2 p (by simp[hp]))]
        exact⟨γ,fun _ _=>rfl,ju,hM⟩
       ·cases hv1
     ·cases h1
    ·cases h1
   ·rename_i hg
    try rw[hg]
    split at h1
    ·rename_i vs2 es2 hr2
     simp only[aD,aU] at h1
     obtain⟨rfl,rfl⟩:=h1
     have ju:=h3 0 undef rfl
     rw[bI] at ju
     exact⟨ju,hM⟩
    ·cases h1
   ·cases h1
  ·have h':Steps P w0 ops base vals writes mem rest (i+1+l.length):=by rwa [aG,show i+(l.length+1)=i+1+l.length by omega] at h
   have hw':∀ k,k<l.length→writes.contains (i+1+k)=false:=fun k hk=>by have:=hw (k+1) (by simp;omega);rwa [show i+(k+1)=i+1+k by omega] at this
   refine BI Mr hv l (i+1) hs.tail rest hw' (fun γ=>?_) h'
   obtain⟨vs,es,h1,h2,h3⟩:=hr γ
   simp only[LZ] at h1
   have h4:∀ (v0:Value) (vs2:List Value),vs=v0::vs2→∀ (k:Nat) v,vs2[k]?=some v→(vals γ)[i+1+k]?=some v:=fun v0 vs2 e k v hk=>by
    have:=h3 (k+1) v (by rw[e];simpa using hk)
    rwa [show i+(k+1)=i+1+k by omega] at this
   split at h1
   ·split at h1
    ·split at h1
     ·rename_i vs2 es2 hr2
      simp only[aD,aU] at h1
      obtain⟨rfl,rfl⟩:=h1
      exact⟨vs2,es2,hr2,fun p hp=>h2 p (by simp[hp]),h4 _ vs2 rfl⟩
     ·cases h1
    ·cases h1
   ·split at h1
    ·rename_i vs2 es2 hr2
     simp only[aD,aU] at h1
     obtain⟨rfl,rfl⟩:=h1
     exact⟨vs2,es2,hr2,h2,h4 _ vs2 rfl⟩
    ·cases h1
   ·cases h1
theorem Steps.run (k:Nat) (hs:List Nat) (Mr:Mem) {i:Nat} (hik:Nat.ble i k=true) (hk:Nat.ble k ops.toList.length=true) (hv:∀ S γ w,Sat w0 (mem (writes.map S) γ) w→Sat w0 Mr w) (hw:((List.range (k-i)).all fun j=>!writes.contains (i+j))=true)
  (hr:∀ γ,OkP (LZ P ops.toList Mr (UX ops.toList base (vals γ)) ((ops.toList.drop i).take (k-i)) hs) (((vals γ).drop i).take (k-i)))
  (h:Steps P w0 ops base vals writes mem (ops.toList.drop k) k):Steps P w0 ops base vals writes mem (ops.toList.drop i) i:=by
 have h1:=aL hik
 have h2:=aL hk
 have hl:((ops.toList.drop i).take (k-i)).length=k-i:=by rw[bG,bU];omega
 rw[UF ops.toList h1]
 refine BI Mr hv _ i hs _ (fun j hj=>?_) (fun γ=>?_) (by rw[hl,show i+(k-i)=k by omega];exact h)
 ·rw[hl] at hj
  simpa using bC.1 hw j (dU.2 hj)
 ·obtain⟨h3,h4⟩:=hr γ
  cases hc:LZ P ops.toList Mr (UX ops.toList base (vals γ)) ((ops.toList.drop i).take (k-i)) hs with
  | none=>rw[hc] at h3;cases h3
  | some x =>
   rw[hc] at h3 h4
   simp only[cE,aD] at h3
   refine⟨x.1,x.2,rfl,UT _ h4,fun q v hq=>?_⟩
   rw[h3,fU] at hq
   split at hq
   ·rwa [cV] at hq
   ·cases hq
theorem Xy (s:G→Sem Next) (d:Option Tmp) (v:G→Value) (Mv:G→Mem) {i:Nat} (hw:writes.contains i=false)
  (hM:∀ S γ w,(∀ e:Nat,(QB ops.toList i).contains e=true→S e=true)→Sat w0 (mem (writes.map S) γ) w→Sat w0 (Mv γ) w) (hv:∀ γ w,Sat w0 (Mv γ) w→(s γ).run P w=.ok (.value (v γ)) w)
  (hs:∀ γ,semAt ops.toList (UX ops.toList base (vals γ)) i=some (s γ,d)) (ju:∀ γ,(vals γ)[i]?=some (v γ))
  (h:Steps P w0 ops base vals writes mem (ops.toList.drop (i+1)) (i+1)):Steps P w0 ops base vals writes mem (ops.toList.drop i) i:=by
 refine J9 (fun o ho S γ w hSi hd hc hMw=>?_) h
 obtain⟨o',h1,h2,h3,h4⟩:=Vp (hs γ)
 rw[ho] at h1
 simp only[aD] at h1
 subst h1
 rw[h2,WO hw]
 simp only
 unfold UC
 rw[h3,hv γ w (hM S γ w (fun e he=>hd e (by unfold QB at he;rw[ho] at he;simpa using he)) hMw)]
 exact⟨γ,fun _ _=>rfl,ju γ,hMw⟩
theorem Vy (s:G→Sem Next) (d:Option Tmp) (v:G→Value) (Mv:G→Mem) {i:Nat} (hw:writes.contains i=false)
  (hM:∀ S γ w,S i=false→(∀ e:Nat,(QB ops.toList i).contains e=true→S e=true)→(∀ j k:Nat,(QB ops.toList k).contains j=true→S k=true→S j=true)→Sat w0 (mem (writes.map S) γ) w→Sat w0 (Mv γ) w) (hv:∀ γ w,Sat w0 (Mv γ) w→(s γ).run P w=.ok (.value (v γ)) w)
  (hs:∀ γ,semAt ops.toList (UX ops.toList base (vals γ)) i=some (s γ,d)) (ju:∀ γ,(vals γ)[i]?=some (v γ))
  (h:Steps P w0 ops base vals writes mem (ops.toList.drop (i+1)) (i+1)):Steps P w0 ops base vals writes mem (ops.toList.drop i) i:=by
 refine J9 (fun o ho S γ w hSi hd hc hMw=>?_) h
 obtain⟨o',h1,h2,h3,h4⟩:=Vp (hs γ)
 rw[ho] at h1
 simp only[aD] at h1
 subst h1
 rw[h2,WO hw]
 simp only
 unfold UC
 rw[h3,hv γ w (hM S γ w hSi (fun e he=>hd e (by unfold QB at he;rw[ho] at he;simpa using he)) (fun j k hjk hk=>by
  unfold QB at hjk
  split at hjk
  ·rename_i o2 ho2
   exact hc k o2 ho2 hk j (by simpa using hjk)
  ·simp at hjk) hMw)]
 exact⟨γ,fun _ _=>rfl,ju γ,hMw⟩
theorem lat {S:Nat→Bool} {j k:Nat} (h:S k=true→S j=true) (hj:S j=false):S k=false:=by
 cases hk:S k with
 | false=>rfl
 | true=>rw[h hk] at hj;cases hj
theorem Steps.call (f:FuncId) (args:G→Array Value) (d:Option Tmp) (v:G→Value) (Mv:G→Mem) {i:Nat} (hw:writes.contains i=false)
  (hM:∀ S γ w,(∀ e:Nat,(QB ops.toList i).contains e=true→S e=true)→Sat w0 (mem (writes.map S) γ) w→Sat w0 (Mv γ) w) (hv:∀ γ w,Sat w0 (Mv γ) w→Calls P f (args γ) w (Ret w (v γ)))
  (hs:∀ γ,VD P ops.toList (UX ops.toList base (vals γ)) i=some (f,args γ,d)) (ju:∀ γ,(vals γ)[i]?=some (v γ))
  (h:Steps P w0 ops base vals writes mem (ops.toList.drop (i+1)) (i+1)):Steps P w0 ops base vals writes mem (ops.toList.drop i) i:=by
 refine J9 (fun o ho S γ w hSi hd hc hMw=>?_) h
 have hsγ:=hs γ
 unfold VD at hsγ
 split at hsγ
 ·rename_i s d' hsem
  split at hsγ
  ·rename_i f' args' hm
   simp only[aD,aU] at hsγ
   obtain⟨rfl,yp,rfl⟩:=hsγ
   obtain⟨o',h1,h2,h3,h4⟩:=Vp hsem
   rw[ho] at h1
   simp only[aD] at h1
   subst h1
   rw[h2,WO hw]
   simp only
   unfold UC
   rw[h3,QZ (Sat.start w) s _ _ hm (by simp)]
   simp only
   rw[yp]
   exact(hv γ w (hM S γ w (fun e he=>hd e (by unfold QB at he;rw[ho] at he;simpa using he)) hMw)).mono fun e w' he=>⟨_,he.1,γ,fun _ _=>rfl,ju γ,hMw.later he.2⟩
  ·cases hsγ
 ·cases hsγ
def UH (D:List Nat):Nat→List Value→List Value
 | _,[]=>[]
 | k,v::vs=>(bif D.contains k then undef else v)::UH D (k+1) vs
theorem Fp (D:List Nat):∀ (vs:List Value) (k i:Nat),(UH D k vs)[i]?=(vs[i]?).map fun v=>bif D.contains (k+i) then undef else v
 | [],k,i=>by simp[UH]
 | v::vs,k,0=>by simp[UH]
 | v::vs,k,i+1=>by
  simp only[UH,cH]
  rw[Fp D vs (k+1) i,show k+1+i=k+(i+1) by omega]
def SR (ops:List Oper) (j:Nat) (D:List Nat):Bool:=D.all fun i=>Nat.beq i j||(QB ops i).any fun e=>D.contains e&&Nat.blt e i
theorem SS {j:Nat} {D:List Nat} (hD:SR ops.toList j D=true) {S:Nat→Bool} (hSj:S j=false) (hc:∀ i o',ops.toList[i]?=some o'→S i=true→∀ e∈aft o',S e=true):∀ (m i:Nat),i<m→i∈D→S i=false:=by
 intro m
 induction m with
 | zero=>intro i hi;exact absurd hi (cF _)
 | succ m ih =>
  intro i hi hm
  have:=bC.1 hD i hm
  simp only[fP,List.any_eq_true,aW] at this
  rcases this with h|⟨e,he,h1,h2⟩
  ·rw[bE h];exact hSj
  ·have hlt:e<i:=aL h2
   have hSe:=ih e (by omega) (by simpa using h1)
   cases hSi:S i with
   | false=>rfl
   | true =>
    unfold QB at he
    split at he
    ·rename_i o ho
     rw[hc i o ho hSi e he] at hSe;cases hSe
    ·cases he
theorem agree {j:Nat} {D:List Nat} (hD:SR ops.toList j D=true) {S:Nat→Bool} (hSj:S j=false) (hc:∀ i o',ops.toList[i]?=some o'→S i=true→∀ e∈aft o',S e=true) {γ γ':G}
  (hm:UH D 0 (vals γ')=UH D 0 (vals γ)):∀ i:Nat,S i=true→(vals γ')[i]?=(vals γ)[i]?:=fun i hi=>by
 have hn:D.contains (0+i)=false:=by
  cases hc2:D.contains (0+i) with
  | false=>rfl
  | true =>
   have:=SS hD hSj hc (i+1) i (cT _) (by simpa using hc2)
   rw[hi] at this;cases this
 have:=congrArg (fun l=>l[i]?) hm
 simp only[Fp,hn,cond_false,Option.map_id'] at this
 simpa using this
theorem UI {i:Nat} {S:Nat→Bool} (hSi:S i=false) (hc:∀ k o',ops.toList[k]?=some o'→S k=true→∀ e∈aft o',S e=true):∀ k:Nat,(QB ops.toList k).contains i=true→S k=false:=fun k hk=>by
 cases hS:S k with
 | false=>rfl
 | true =>
  unfold QB at hk
  split at hk
  ·rename_i o ho
   rw[hc k o ho hS i (by simpa using hk)] at hSi;cases hSi
  ·cases hk
theorem Steps.op {Γ:Type} (set:Γ→G→G) (E:G→Mem) (E':Γ→G→Mem) (X:(Nat→Bool)→G→Mem) (D:List Nat) (s:G→Sem Next) (d:Option Tmp) (v:Γ→G→Value) {i:Nat}
  (ff:∀ S γ,S i=false→(∀ e:Nat,(QB ops.toList i).contains e=true→S e=true)→(∀ k:Nat,(QB ops.toList k).contains i=true→S k=false)→(mem (writes.map S) γ).Perm (E γ++X S γ))
  (yq:∀ S γ g,(∀ k:Nat,(QB ops.toList k).contains i=true→S k=false)→(E' g γ++X S γ).Perm (mem (writes.map (upS S i)) (set g γ)))
  (hv:∀ γ M' w,Sat w0 (E γ++M') w→∃ g w',(s γ).run P w=.ok (.value (v g γ)) w'∧Sat w0 (E' g γ++M') w')
  (hs:∀ γ,semAt ops.toList (UX ops.toList base (vals γ)) i=some (s γ,d)) (ju:∀ γ g,(vals (set g γ))[i]?=some (v g γ))
  (hD:SR ops.toList i D=true) (pd:∀ γ g,UH D 0 (vals (set g γ))=UH D 0 (vals γ))
  (h:Steps P w0 ops base vals writes mem (ops.toList.drop (i+1)) (i+1)):Steps P w0 ops base vals writes mem (ops.toList.drop i) i:=by
 refine J9 (fun o ho S γ w hSi hd hc hMw=>?_) h
 obtain⟨o',h1,h2,h3,h4⟩:=Vp (hs γ)
 rw[ho] at h1
 simp only[aD] at h1
 subst h1
 have hd':∀ e:Nat,(QB ops.toList i).contains e=true→S e=true:=fun e he=>hd e (by unfold QB at he;rw[ho] at he;simpa using he)
 rw[h2]
 simp only
 unfold UC
 obtain⟨g,w',hr,hM'⟩:=hv γ _ w (hMw.perm (ff S γ hSi hd' (UI hSi hc)))
 rw[h3,hr]
 exact⟨set g γ,agree hD hSi hc (pd γ g),ju γ g,hM'.perm (yq S γ g (UI hSi hc))⟩
theorem Steps.put (E:G→Mem) (E':G→Mem) (X:(Nat→Bool)→G→Mem) (s:G→Sem Next) (d:Option Tmp) {i:Nat}
  (ff:∀ S γ,S i=false→(∀ e:Nat,(QB ops.toList i).contains e=true→S e=true)→(∀ k:Nat,(QB ops.toList k).contains i=true→S k=false)→(mem (writes.map S) γ).Perm (E γ++X S γ))
  (yq:∀ S γ,(∀ k:Nat,(QB ops.toList k).contains i=true→S k=false)→(E' γ++X S γ).Perm (mem (writes.map (upS S i)) γ))
  (hv:∀ γ M' w,Sat w0 (E γ++M') w→∃ w',(s γ).run P w=.ok .skip w'∧Sat w0 (E' γ++M') w')
  (hs:∀ γ,semAt ops.toList (UX ops.toList base (vals γ)) i=some (s γ,d)) (ju:∀ γ,(vals γ)[i]?=some undef)
  (h:Steps P w0 ops base vals writes mem (ops.toList.drop (i+1)) (i+1)):Steps P w0 ops base vals writes mem (ops.toList.drop i) i:=by
 refine J9 (fun o ho S γ w hSi hd hc hMw=>?_) h
 obtain⟨o',h1,h2,h3,h4⟩:=Vp (hs γ)
 rw[ho] at h1
 simp only[aD] at h1
 subst h1
 have hd':∀ e:Nat,(QB ops.toList i).contains e=true→S e=true:=fun e he=>hd e (by unfold QB at he;rw[ho] at he;simpa using he)
 rw[h2]
 simp only
 unfold UC
 obtain⟨w',hr,hM'⟩:=hv γ _ w (hMw.perm (ff S γ hSi hd' (UI hSi hc)))
 rw[h3,hr]
 exact⟨γ,fun _ _=>rfl,ju γ,hM'.perm (yq S γ (UI hSi hc))⟩
theorem GL {Γ:Type} (set:Γ→G→G) (f:FuncId) (args:G→Array Value) (Mv:G→Mem) (E':Γ→G→Mem) (D:List Nat) (d:Option Tmp) (v:Γ→G→Value) {i:Nat}
  (hM:∀ S γ w,(∀ e:Nat,(QB ops.toList i).contains e=true→S e=true)→Sat w0 (mem (writes.map S) γ) w→Sat w0 (Mv γ) w)
  (yq:∀ S γ g,S i=false→(∀ e:Nat,(QB ops.toList i).contains e=true→S e=true)→(E' g γ++mem (writes.map S) γ).Perm (mem (writes.map (upS S i)) (set g γ)))
  (hv:∀ γ w,Sat w0 (Mv γ) w→Calls P f (args γ) w (JD (cx w) (fun g=>v g γ) (fun g=>E' g γ)))
  (hs:∀ γ,VD P ops.toList (UX ops.toList base (vals γ)) i=some (f,args γ,d)) (ju:∀ γ g,(vals (set g γ))[i]?=some (v g γ))
  (hD:SR ops.toList i D=true) (pd:∀ γ g,UH D 0 (vals (set g γ))=UH D 0 (vals γ))
  (h:Steps P w0 ops base vals writes mem (ops.toList.drop (i+1)) (i+1)):Steps P w0 ops base vals writes mem (ops.toList.drop i) i:=by
 refine J9 (fun o ho S γ w hSi hd hc hMw=>?_) h
 have hd':∀ e:Nat,(QB ops.toList i).contains e=true→S e=true:=fun e he=>hd e (by unfold QB at he;rw[ho] at he;simpa using he)
 have hsγ:=hs γ
 unfold VD at hsγ
 split at hsγ
 ·rename_i s d' hsem
  split at hsγ
  ·rename_i f' args' hm
   simp only[aD,aU] at hsγ
   obtain⟨rfl,yp,rfl⟩:=hsγ
   obtain⟨o',h1,h2,h3,h4⟩:=Vp hsem
   rw[ho] at h1
   simp only[aD] at h1
   subst h1
   rw[h2]
   simp only
   unfold UC
   rw[h3,QZ (Sat.start w) s _ _ hm (by simp)]
   simp only
   rw[yp]
   refine(hv γ w (hM S γ w hd' hMw)).mono fun e w' he=>?_
   obtain⟨g,rfl,hMn⟩:=he
   refine⟨_,rfl,set g γ,agree hD hSi hc (pd γ g),ju γ g,?_⟩
   refine(Sat.call (Mp:=[]) (Mr:=mem (writes.map S) γ) hMw ?_).perm (yq S γ g hSi hd')
   exact⟨⟨hMn.chg.os,hMn.chg.tape,hMn.chg.output,hMn.chg.size,fun k hk _=>hMn.chg.block k hk (fun h=>h),hMn.chg.drawn⟩,fun e he=>⟨(hMn.own e he).1,fun b hb=>by
    rcases(hMn.own e he).2 b hb with h5|h5
    ·exact h5.elim
    ·exact .inr h5⟩,hMn.apart⟩
  ·cases hsγ
 ·cases hsγ
end
theorem BJ {s l m:Mem} {e:Ent} (hs:s=[e]) (h:l.Sublist m):(e::l).Sublist (s++m):=by subst hs;exact h.cons_cons e
theorem GR {l m:Mem} {e:Ent} (h:l.Sublist m):(e::l).Sublist ([e]++m):=h.cons_cons e
theorem Zh {s l m:Mem} (h:l.Sublist m):l.Sublist (s++m):=List.sublist_append_of_sublist_right h
theorem ZP {α:Type} (a e b:List α):(a++(e++b)).Perm (e++(a++b)):=List.perm_append_comm_assoc a e b
theorem Jd {P:Program} {w0:Ctx} {s:Sem Next} {v:Nat→Value} {o:Obj} (h:∀ (b:Nat) (M:Mem),mw P 0 b s M=some (.value (v b),.inl (b,o)::M,[])) (M':Mem) (w:World) (hM:Sat w0 ([]++M') w) :
  ∃ (b:Nat) (w':World),s.run P w=.ok (.value (v b)) w'∧Sat w0 ([.inl (b,o)]++M') w':=by
 obtain⟨w',h1,h2⟩:=VW s M' w _ _ _ hM rfl (h w.heap.size M') (by simp)
 exact⟨w.heap.size,w',h1,h2⟩
def Ab:Option (Next×Mem×List (Nat×Nat))→Option (Next×Mem)
 | some (x,m,_)=>some (x,m)
 | none=>none
def Ac:Option (Next×Mem×List (Nat×Nat))→List Nat×List Nat
 | some (_,_,es)=>(es.map Prod.fst,es.map Prod.snd)
 | none=>([],[])
theorem JJ {P:Program} {w0:Ctx} {s:Sem Next} {e e':Ent} (h:∀ (b:Nat) (M:Mem),Ab (mw P 0 b s (e::M))=some (.skip,e'::M)) (h2:∀ (b:Nat) (M:Mem),(Ac (mw P 0 b s (e::M))).1=(Ac (mw P 0 b s (e::M))).2)
  (M':Mem) (w:World) (hM:Sat w0 ([e]++M') w):∃ (w':World),s.run P w=.ok .skip w'∧Sat w0 ([e']++M') w':=by
 have h1:=h w.heap.size M'
 have h3:=h2 w.heap.size M'
 cases hm:mw P 0 w.heap.size s (e::M') with
 | none=>rw[hm] at h1;cases h1
 | some x =>
  obtain⟨x,m,es⟩:=x
  rw[hm] at h1 h3
  simp only[Ab,aD,aU] at h1
  obtain⟨rfl,rfl⟩:=h1
  exact VW s (e::M') w _ _ _ hM rfl hm (UT _ h3)
end Go.Eng
end
section
namespace Go.Glue
open Go.ChangeShapes Go.WideShapes Go.ChangeAt Go.RowKit Go.Deep Go.Eng
section
variable {H:Type} {enc:TypeId×Value→H} {P:Program}
theorem DO {f:Func} {s:ChangeSpec} {apart fresh handsOn again:Bool} {W W':World} {args:Array Value} {v:Value} {ds gs:List (DataW H)} {before pa pv:List MemPlace}
  (hW:DataW.Whole enc P f.params.toList s.vars apart W args.toList ds gs before)
  (fg:∀ (b:Nat) (sp:Nat→Bool) (hd:Bool),DataW.TrodAll enc P W' b sp hd f.resultTypes.toList (v.resultList f.resultTypes.size) (s.fn H (ds++gs)).results [])
  (yp:∀ sp:Nat→Bool,(∀ p∈before,sp p.block=true)→DataW.TrodAll enc P W' 0 sp true f.params.toList args.toList (s.fn H (ds++gs)).args pa)
  (dy:∀ sp:Nat→Bool,(∀ p∈before,sp p.block=true)→DataW.TrodVars enc P W' sp s.vars (s.fn H (ds++gs)).vars pv)
  (hps:before=pa++pv) (hb:RowKit.Below W.heap.size W W')
  (hok:∀ (j:Nat) (t:TypeId) (r:Value),f.resultTypes[j]?=some t→(v.resultList f.resultTypes.size)[j]?=some r→Value.okWide P W' .any 0 t r) :
  s.post enc P f apart fresh handsOn again W args v W':=by
 have hlt:∀ p∈before,p.block<W.heap.size:=fun p hp=>hW.lt p hp
 have hold:∀ p∈before,(fun b=>decide (b<W.heap.size)) p.block=true:=fun p hp=>by simpa using hlt p hp
 refine⟨ds,gs,before,[],pa,pv,hW,fg _ _ _,yp _ hold,dy _ hold,World.keptBut_mono (fun p hp=>⟨hp,?_⟩) (hb.frame (·∈before)),fun _=>?_⟩
 ·rw[hps,bD] at hp
  exact Or.inr hp
 ·obtain⟨_,_,_,_,_,hz,hn⟩:=hW
  refine⟨hok,_,_,([]++pa)++pv,⟨[]++pa,pv,trodAll_append (yp _ (fun _ _=>rfl)) (fg _ _ _),dy _ (fun _ _=>rfl),rfl,?_,?_⟩,?_⟩
  ·intro b off hp
   have hin:MemPlace.cell b off∈before:=by rw[hps];simpa using hp
   rw[hb.frozen (hlt _ hin)]
   exact hz b off hin
  ·intro ha
   have:=hn ha
   rw[hps] at this
   simpa using this
  ·intro p hp _
   rw[hps]
   simpa using hp
theorem HQ {W:World} {base:Nat} {sp:Nat→Bool} {hd:Bool}:∀ {ts:List TypeId} {vs:List Value} {ds:List (DataW H)} {ps:List MemPlace},DataW.TrodAll enc P W base sp hd ts vs ds ps→ds.length=ts.length
 | [],_,_,_,h=>by
  obtain⟨_,rfl,_⟩:=trodAll_nil h
  rfl
 | t::ts,_,_,_,h=>by
  obtain⟨v,vs,d,ds,p,q,rfl,rfl,rfl,_,h1⟩:=trodAll_cons h
  simp[HQ h1]
theorem Fq (hl:laidOutB P=true) {W W':World} (hb:RowKit.Below W.heap.size W W') {sp:Nat→Bool}:∀ {ts:List TypeId} {vs:List Value} {ds:List (DataW H)} {ps:List MemPlace},
  ts.all (fun t=>P.readableRec t&&decide (t<P.types.size))=true→DataW.TrodAll enc P W 0 (fun _=>true) true ts vs ds ps→(∀ p∈ps,p.block<W.heap.size)→(∀ p∈ps,sp p.block=true) →
  DataW.TrodAll enc P W' 0 sp true ts vs ds ps
 | [],_,_,_,_,h,_,_=>by
  obtain⟨rfl,rfl,rfl⟩:=trodAll_nil h
  exact trodAll_mk0
 | t::ts,_,_,_,ht,h,hlt,hsp=>by
  obtain⟨v,vs,d,ds,p,q,rfl,rfl,rfl,h0,h1⟩:=trodAll_cons h
  simp only[List.all_cons,aW,decide_eq_true_eq] at ht
  exact⟨p,q,WideElems.Trod_stays hl ht.1.1 ht.1.2 h0 (fun x hx=>hb.same (hlt x (cL _ hx))) (fun x hx=>hsp x (cL _ hx)),
   Fq hl hb ht.2 h1 (fun x hx=>hlt x (eI _ hx)) (fun x hx=>hsp x (eI _ hx)),rfl⟩
end
def MM (P:Program) (t:TypeId) {α:Type} (c:α→Array Value) (ok:α→Prop):Prop :=
 ∀ {H:Type} {enc:TypeId×Value→H} {W:World} {base:Nat} {sp:Nat→Bool} {hd:Bool} {fuel:Nat} {cs:List Value} {x:DataW H×List MemPlace},
  DataW.trod enc P W base sp hd fuel t cs=some x→∃ a,cs=(c a).toList∧ok a
def I64 (x:Int):Prop:=-9223372036854775808≤x∧x≤9223372036854775807
theorem OY {x:Int} (h:(Lit.int .i64 x).wf=true):I64 x:=by
 simp only[Lit.wf,aW,decide_eq_true_eq] at h
 exact h
theorem Tu {P:Program} {t:TypeId} (ht:P.underlying t=some (.int .i64)):MM P t ic I64:=by
 intro H enc W base sp hd fuel cs x h
 obtain⟨n,rfl,_,hw⟩:=DataW.trod_int ht h
 exact⟨n,rfl,OY hw⟩
section
variable {H:Type} {enc:TypeId×Value→H} {P:Program} {W:World} {base b0:Nat} {sp:Nat→Bool} {hd:Bool} {t:TypeId} {v:Value} {d:DataW H} {p:List MemPlace}
theorem OZ {α:Type} {ok:α→Prop} (n:Nat) {q:Nat→α→Prop} (h:∀ i,i<n→∃ a,q i a∧ok a):∃ l:List α,l.length=n∧(∀ a∈l,ok a)∧∀ i a,l[i]?=some a→q i a:=by
 induction n with
 | zero=>exact⟨[],rfl,by simp,by simp⟩
 | succ n ih =>
  obtain⟨l,hl,hk,hq⟩:=ih fun i hi=>h i (by omega)
  obtain⟨a,ha,hka⟩:=h n (by omega)
  refine⟨l ++ [a],by simp[hl],fun b hb=>?_,fun i b hb=>?_⟩
  ·rcases bD.1 hb with hb|hb
   ·exact hk b hb
   ·rw[aV.1 hb];exact hka
  ·by_cases hi:i<l.length
   ·rw[cA hi] at hb;exact hq i b hb
   ·have:i=l.length:=by
     have:=(aK.1 hb).1
     simp at this;omega
    subst this
    simp at hb
    subst hb
    rw[hl];exact ha
theorem MN {α:Type} {c:α→Array Value} {ok:α→Prop} {e:TypeId} {sz by_:Nat} (ho:MM P e c ok) (ht:P.underlying t=some (.slice e)) (hc:P.cellsOf e=sz) (hp:0<sz) (hby:P.bytesOf e=by_) (hbp:0<by_)
  {fuel:Nat} {cs:List Value} {x:DataW H×List MemPlace} (h:DataW.trod enc P W base sp hd fuel t cs=some x) (hw:∀ n∈x.1.weights P t,n≤reachBytes) :
  ∃ (A:Option Addr) (cap:Nat) (l:List α),cs=[.slice A l.length cap]∧Rd W sz A (l.map c)∧l.length≤cap∧∀ a∈l,ok a:=by
 rcases open_slice ht h with ⟨rfl,rfl⟩|⟨a,len,cap,m,n,D,Pl,rfl,hb,hlc,hm,rfl,rfl,hx⟩
 ·exact⟨none,0,[],rfl,Rd.nil _ _,aR _,by simp⟩
 ·have hlm:len≤(if sp a.block then cap else len):=by split <;> omega
  obtain⟨l,hl,hk,hq⟩:=OZ (ok:=ok) len (q:=fun i r=>W.cells? base (a.add (i*P.cellsOf e)) (P.cellsOf e)=some (c r).toList) (fun i hi=>by
   obtain⟨cs',h1,h2⟩:=hx i (by omega)
   obtain⟨r,rfl,k⟩:=ho h2
   exact⟨r,h1,k⟩)
  refine⟨some a,cap,l,by rw[hl],⟨?_,fun i r hi=>?_⟩,by omega,hk⟩
  ·have:=hw _ (by show _∈DataW.weights P t (.slice _ _);simp only[DataW.weights,ht];exact aM ..)
   rw[hby] at this
   simp only[aF,List.length_range] at this
   have h2:len*1≤(len+((if sp a.block then cap else len)-len))*by_:=Nat.mul_le_mul (by omega) hbp
   simp only[aF,hl]
   have:reachBytes<4611686018427387904:=by decide
   omega
  ·rw[cK] at hi
   obtain⟨y,hy,rfl⟩:=Option.map_eq_some_iff.1 hi
   obtain⟨_,h3,h4⟩:=World.cells?_some (hq i y hy)
   rw[hc] at h3 h4
   have yi:∀ (j:Nat) (u:Value),(c y)[j]?=some u→W.cell? (a.add (i*sz+j))=some u:=fun j u hu=>by
    have hj:j<sz:=by
     have:=(bY.1 hu).1
     rw[← h3];simpa using this
    rw[← add_add',h4 j hj,aZ];exact hu
   refine⟨by rw[← h3];simp,a,rfl,?_,yi⟩
   have h0:=yi 0 ((c y)[0]'(by rw[← aX,h3];exact hp)) (bW _)
   unfold World.cell? at h0
   rw[Wz] at h0
   split at h0
   ·rename_i hh
    exact(bY.1 hh).1
   ·cases h0
theorem Tv {α:Type} {c:α→Array Value} {ok:α→Prop} {e:TypeId} {sz by_:Nat} (ho:MM P e c ok) (ht:P.underlying t=some (.slice e)) (hc:P.cellsOf e=sz) (hp:0<sz) (hby:P.bytesOf e=by_) (hbp:0<by_)
  (ju:Value.okWide P W .any b0 t v) (h:DataW.Trod enc P W base sp hd t v d p) (hw:∀ n∈d.weights P t,n≤reachBytes) :
  ∃ (A:Option Addr) (cap:Nat) (l:List α),v=.slice A l.length cap∧Rd W sz A (l.map c)∧l.length≤cap∧∀ a∈l,ok a:=by
 obtain⟨A,n,cap,rfl⟩:=okWide_slice ht ju
 obtain⟨fuel,hf⟩:=h
 obtain⟨A',gm,l,e,k⟩:=MN ho ht hc hp hby hbp hf hw
 rw[show (Value.slice A n cap).cells.toList=[.slice A n cap] from rfl] at e
 simp only[List.cons.injEq,Value.slice.injEq,and_true] at e
 obtain⟨rfl,rfl,rfl⟩:=e
 exact⟨_,_,l,rfl,k⟩
end
end Go.Glue
end
section
namespace Go.Sky
open Go.Glue
def P.ok (x:P):Prop:=I64 x.X∧I64 x.Y
def Zr.ok (x:Zr):Prop:=I64 x.Radar∧I64 x.Time∧I64 x.Range∧I64 x.Azimuth∧I64 x.Height∧I64 x.Code
def XZ.ok (x:XZ):Prop:=I64 x.Range∧I64 x.Azimuth∧I64 x.Time
def Zl.ok (x:Zl):Prop:=I64 x.ID∧x.At.ok∧I64 x.Reach∧I64 x.RangeError∧I64 x.AzimuthError
def Track.ok (x:Track):Prop:=I64 x.ID∧I64 x.State∧I64 x.Time∧x.At.ok∧x.Speed.ok∧I64 x.Height∧I64 x.Rate∧I64 x.Radius∧I64 x.Code∧I64 x.Hits∧I64 x.Misses
def Zm.ok (x:Zm):Prop:=I64 x.Time∧x.At.ok∧I64 x.Height∧I64 x.Code∧I64 x.Error
def Za.ok (x:Za):Prop:=x.Track.ok∧I64 x.Slack∧x.Last.ok
def Zg.ok (x:Zg):Prop:=I64 x.Hits∧I64 x.Scans
def XD.ok (x:XD):Prop:=I64 x.Time∧I64 x.Level
def Sep.ok (x:Sep):Prop:=I64 x.Lateral∧I64 x.Vertical
def Q6.ok (x:Q6):Prop:=I64 x.A∧I64 x.B∧I64 x.Seconds
def Wc.ok (x:Wc):Prop:=I64 x.From∧I64 x.To
def Node.ok (x:Node):Prop:=I64 x.Time∧x.At.ok∧I64 x.Height
def Ja.ok (x:Ja):Prop:=x.Node.ok∧I64 x.Radius∧I64 x.Band
def ZB.ok (x:ZB):Prop:=I64 x.Need∧I64 x.Of∧I64 x.Misses∧I64 x.Accel∧I64 x.Place∧I64 x.Speed
def followed.ok (x:followed):Prop:=x.f.ok∧x.history.ok
end Go.Sky
end
section
namespace Go.Eng
def XG (p:Prop):Res where
 foot _:=False
 holds _:=p
 lt _ _ _ h:=h.elim
 kept _ _ h _:=h
theorem Sat.fact {w0:Ctx} {w:World} {M:Mem} {p:Prop} (h:Sat w0 M w) (hp:p):Sat w0 (.inr (XG p)::M) w:=h.push (Below.refl _ _) _ hp (fun _ hb=>hb.elim)
theorem Sat.fact_at {w0:Ctx} {w:World} {M:Mem} {p:Prop} (h:Sat w0 M w) (j:Nat) (hj:M[j]?=some (.inr (XG p))):p:=h.res hj
section
variable {α:Type} {p:List (List α)} {r:List (Sl α)} {s:Sl α} {x:List α}
theorem KN (h:p=r.map Sl.l) (k:Nat):(r[k]?.getD Sl.zero).l=p[k]?.getD []:=by
 subst h
 rw[cK]
 cases r[k]? <;> rfl
theorem UJ (h:p=r.map Sl.l) {k:Nat} (hx:p[k]?=some x):(r[k]?.getD Sl.zero).l=x:=by rw[KN h,hx];rfl
theorem KO (h:p=r.map Sl.l):p.length=(r.map Sl.c).length:=by subst h;simp
theorem UY (h:p=r.map Sl.l):p.length=r.length:=by subst h;simp
theorem WP (h:p=r.map Sl.l) {k:Nat} (hk:k<p.length):k<r.length:=by rw[← UY h];exact hk
theorem Ad (h:p=r.map Sl.l) {k:Nat} (hk:p.length≤k):r.length≤k:=by rw[← UY h];exact hk
theorem Ip (h:p=r.map Sl.l) {k:Nat} (hk:r.length≤k):p.length≤k:=by rw[UY h];exact hk
theorem Ko {w:World} {sz:Nat} {c:α→Array Value} (h:∀ s∈r,s.rd w sz c) (k:Nat):(r[k]?.getD Sl.zero).rd w sz c:=by
 cases hk:r[k]? with
 | none=>exact Sl.rd_zero w sz c
 | some s=>exact h s (aH hk)
theorem KT {w:World} {sz:Nat} {c:α→Array Value} (h:s.rd w sz c) (e:s.l=x):Rd w sz s.A (x.map c):=by subst e;exact h.rd
theorem EY {w:World} {sz:Nat} {c:α→Array Value} (h:s.rd w sz c) (e:s.l=x):x.length≤s.cap:=by subst e;exact h.le
theorem GT (h:p=r.map Sl.l) (n:Nat):p.drop n=(r.drop n).map Sl.l:=by subst h;rw[List.map_drop]
theorem FX {q:Sl α→Prop} (h:∀ s∈r,q s) (n:Nat):∀ s∈r.drop n,q s:=fun s hs=>h s (fM hs)
theorem SU (h:p=r.map Sl.l):p ++ [s.l]=(r ++ [s]).map Sl.l:=by subst h;simp
theorem CE (e:s.l=x) (h:p=r.map Sl.l):x::p=(s::r).map Sl.l:=by subst h e;rfl
end
end Go.Eng
namespace Go.Eng
def bat (s:ByteArray) (i:Nat):Int:=((s.data[i]?.getD 0).toNat:Int)
theorem Iq (s:ByteArray) (i:Nat):0≤bat s i∧bat s i≤255:=by
 unfold bat
 have:=(s.data[i]?.getD 0).toNat_lt
 omega
theorem XC {P:Program} {w:World} {t:TypeId} {k:IntKind} {i:Int} {s:ByteArray} (ht:P.underlying t=some .string) (h0:0≤i) (h1:i<(s.size:Int)) :
  (sV (Instr.index t (.string s) (.int k i))).run P w=.ok (.value (.int .u8 (bat s i.toNat))) w:=by
 refine JY ?_
 have hu:=run_underlying (P:=P) (w:=w) ht
 have hlt:i.toNat<s.size:=by omega
 have hg:s[i.toNat]?=some s.data[i.toNat]:=by
  rw[getElem?_pos s i.toNat hlt];rfl
 have hb:bat s i.toNat=((s.data[i.toNat]'hlt).toNat:Int):=by
  unfold bat
  rw[bW hlt];rfl
 simp[Instr.index,asIntOf,hu,h0,hg,hb]
theorem FY (x:Int):0≤Z0 x:=by
 show 0≤IntKind.u64.wrap x
 simp only[IntKind.wrap_u64];omega
theorem Ea (x:Int):Z0 x=x%18446744073709551616:=IntKind.wrap_u64 x
theorem JK {x:Int} (h:0≤x∧x≤18446744073709551615):Z0 x=x:=by rw[Ea];omega
theorem Ir (x:Int):wu8 x=x%256:=IntKind.wrap_u8 x
theorem Qb (x:Int):0≤wu8 x∧wu8 x≤255:=by rw[Ir];omega
end Go.Eng
namespace Go.Sky
open Go Go.Eng
theorem Q8 {α:Type} (c:Bool) (x y:α):cond c x y=if c=true then x else y:=by cases c <;> rfl
theorem SV {a:Int} (b:Int) (h:0≤a):a.tmod b=a%b:=bZ h
theorem SX {a:Int} (b:Int) (h:a≤0):a.tmod b=-((-a)%b):=by
 have e:a.tmod b=-((-a).tmod b):=by rw[Int.neg_tmod,fN]
 rw[e,SV b (by omega)]
theorem WQ {a:Int} (b:Int) (h:0≤a):a.tdiv b=a/b:=dC h
theorem SY {a:Int} (b:Int) (h:a≤0):a.tdiv b=-((-a)/b):=by
 have e:a.tdiv b=-((-a).tdiv b):=by rw[Int.neg_tdiv,fN]
 rw[e,WQ b (by omega)]
theorem Bq {a b:Int} (ha:0≤a) (hb:0<b):0≤a/b∧a/b≤a :=
 ⟨Int.ediv_nonneg ha (by omega),Int.ediv_le_self b ha⟩
end Go.Sky
namespace Go.Eng
theorem Sat.pass {w0:Ctx} {w:World} {Mp Mr:Mem} (h:Sat w0 (Mp++Mr) w):Sat ⟨w,XS Mp⟩ Mp w :=
 ⟨Chg.refl _ _,fun e he=>⟨(h.own e (cL _ he)).1,fun _ hb=>.inl ⟨e,he,hb⟩⟩,(cY.1 h.apart).1⟩
end Go.Eng
end
section
namespace Go.Eng
theorem Ft (t:Nat) (F:ZJ):∀ A:ZJ,look t (A++F)=match look t A with|some v=>some v|none=>look t F
 | []=>rfl
 | (k,v)::A=>by
  by_cases e:k=t
  ·subst e;rw[eE,YI,YI]
  ·rw[eE,YV _ _ e,YV _ _ e];exact Ft t F A
def Is (A F:ZJ) (l:List Oper):Bool:=l.all fun o=>match o.dst with
 | none=>true
 | some d=>(look d A).isSome||!(look d F).isSome
theorem BK {n:Nat} {F G:ZJ} {d:Option Tmp} {v:Value} {t:Nat} (h:Gv n F d v=some G) (ht:d≠some t):look t G=look t F:=by
 unfold Gv at h
 split at h
 ·simp only[aD] at h;subst h;rfl
 ·rename_i d'
  cases hb:Nat.blt d' n with
  | false=>rw[hb] at h;cases h
  | true =>
   rw[hb] at h
   simp only[cond_true,aD] at h
   subst h
   exact YV _ _ (fun e=>ht (by rw[e]))
theorem W1 {P:Program} {n:Nat} {ops:List Oper} {M:Mem} {t:Nat}:∀ (l:List Oper) (hs:List Nat) (F G:ZJ) (es:List (Nat×Nat)),Vm P n ops M l hs F=some (G,es)→(∀ o∈l,o.dst≠some t)→look t G=look t F
 | [],hs,F,G,es,h,_=>by simp only[Vm,aD,aU] at h;rw[h.1]
 | o::l,hs,F,G,es,h,ht=>by
  have h0:=ht o (aM ..)
  have h1:∀ o∈l,o.dst≠some t:=fun o ho=>ht o (aJ _ ho)
  simp only[Vm] at h
  split at h
  ·split at h
   ·split at h
    ·rename_i hF1
     split at h
     ·rename_i hr
      simp only[aD,aU] at h
      rw[← h.1,W1 l _ _ _ _ hr h1,BK hF1 h0]
     ·cases h
    ·cases h
   ·cases h
  ·split at h
   ·rename_i hF1
    rw[W1 l _ _ _ _ h h1,BK hF1 h0]
   ·cases h
  ·cases h
structure OkA (P:Program) (n:Nat) (l:List Oper) (ops:List Oper) (M:Mem) (i k:Nat) (hs:List Nat) (A F0 F:ZJ):Prop where
 le:Nat.ble i k=true:=by kernel_rfl
 fst:EV A (Vm P n ops M ((l.drop i).take (k-i)) hs F0)=some A:=by kernel_rfl
 snd:BA (Vm P n ops M ((l.drop i).take (k-i)) hs F0)=Wy (Vm P n ops M ((l.drop i).take (k-i)) hs F0):=by kernel_rfl
 thd:Is A F ((l.drop i).take (k-i))=true:=by kernel_rfl
theorem MO {P:Program} {n:Nat} {l ops:List Oper} {M:Mem} {i k:Nat} {hs:List Nat} {A F0 F:ZJ} (h:OkA P n l ops M i k hs A F0 F) (kr:∀ s v,look s F=some v→look s F0=some v) :
  ∃ G es,Vm P n ops M ((l.drop i).take (k-i)) hs F0=some (G,es)∧(∀ p∈es,p.1=p.2)∧∀ t v,look t (A++F)=some v→look t G=some v:=by
 obtain⟨_,h1,h2,h3⟩:=h
 cases hr:Vm P n ops M ((l.drop i).take (k-i)) hs F0 with
 | none=>rw[hr] at h1;cases h1
 | some x =>
  rw[hr] at h1 h2
  refine⟨x.1,x.2,rfl,UT _ h2,fun t v ht=>?_⟩
  rw[Ft] at ht
  cases hA:look t A with
  | some u=>rw[hA] at ht;simp only[aD] at ht;subst ht;exact JQ _ _ _ h1 t u hA
  | none =>
   rw[hA] at ht
   simp only at ht
   rw[W1 _ _ _ _ _ hr (fun o ho e=>?_)]
   ·exact kr t v ht
   ·have:=bC.1 h3 o ho
    rw[e] at this
    simp only[hA,ht] at this
    cases this
section
variable {P:Program} {n:Nat} {w0:Ctx} {ops:Array Oper} {Q:Exit→Act→World→Prop} {F:ZJ} {M:Mem}
theorem M7 (k:Nat) (hs:List Nat) (A F0:ZJ) {i:Nat} (kr:∀ s v,look s F=some v→look s F0=some v) (hr:OkA P n ops.toList ops.toList M i k hs A F0 F) (h:TL P n w0 ops Q k (A++F) M):TL P n w0 ops Q i F0 M:=by
 intro a w hF hM
 obtain⟨G,es,hG,he,hs'⟩:=MO hr kr
 rw[UF ops.toList (aL hr.le)]
 exact Ut _ _ _ _ _ _ a w hF hM hG he (fun a' ha'=>h a' w (ha'.sub hs') hM)
theorem Zc (k:Nat) (hs:List Nat) (A:ZJ) {i:Nat} (hr:OkA P n ops.toList ops.toList M i k hs A F F) (h:TL P n w0 ops Q k (A++F) M):TL P n w0 ops Q i F M :=
 M7 k hs A F (fun _ _ h=>h) hr h
theorem GU {t:Nat} {b:Bool} (ht:look t F=some (.bool b)):∀ s v,look s F=some v→look s ((t,.bool b)::F)=some v:=fun s v hv=>by
 by_cases e:t=s
 ·subst e;rw[YI];exact ht.symm.trans hv
 ·rw[YV _ _ e];exact hv
theorem XT (t:Nat) (b:Bool) (k:Nat) (hs1 hs2:List Nat) (A:Bool→ZJ) {i:Nat} (ht:look t F=some (.bool b)) (h1:OkA P n ops.toList ops.toList M i k hs1 (A true) ((t,.bool true)::F) F)
  (h2:OkA P n ops.toList ops.toList M i k hs2 (A false) ((t,.bool false)::F) F) (h:TL P n w0 ops Q k (A b++F) M):TL P n w0 ops Q i F M:=by
 refine Yo t b ht (fun e=>?_) (fun e=>?_)
 ·subst e;exact M7 k hs1 (A true) _ (GU ht) h1 h
 ·subst e;exact M7 k hs2 (A false) _ (GU ht) h2 h
structure MP (n:Nat) (ops:List Oper) (F:ZJ) (i:Nat) (s:Sem Next) (d:Nat):Prop where
 at_:semAt ops F i=some (s,some d):=by kernel_rfl
 lt:Nat.blt d n=true:=by kernel_rfl
structure FZ (P:Program) (n:Nat) (ops:List Oper) (F:ZJ) (i:Nat) (f:FuncId) (args:Array Value) (d:Nat):Prop where
 at_:VD P ops F i=some (f,args,some d):=by kernel_rfl
 lt:Nat.blt d n=true:=by kernel_rfl
theorem W2 {a:Act} {d:Nat} {v:Value} (hF:Fr n F a) (hd:Nat.blt d n=true):Fr n ((d,v)::F) (a.put (some d) v):=hF.put (aL hd) v
structure OkN (r:Option ((ZJ×Mem)×List (Nat×Nat))) (F':ZJ) (M':Mem):Prop where
 fst:r.map Prod.fst=some (F',M'):=by kernel_rfl
 snd:BA r=Wy r:=by kernel_rfl
theorem OkN.okW {r:Option ((ZJ×Mem)×List (Nat×Nat))} {F':ZJ} {M':Mem} (h:OkN r F' M'):∃ es,r=some ((F',M'),es)∧∀ p∈es,p.1=p.2:=by
 obtain⟨h1,h2⟩:=h
 cases r with
 | none=>cases h1
 | some x =>
  obtain⟨y,es⟩:=x
  simp only[cE,aD] at h1
  subst h1
  exact⟨es,rfl,UT _ h2⟩
theorem Ii (j:Nat) (F':Nat→ZJ) (M':Nat→Mem) {i:Nat} (hr:∀ b,OkN (Tt P n ops.toList F M j b i) (F' b) (M' b)) (h:∀ b,TL P n w0 ops Q (i+1) (F' b) (M' b)):TL P n w0 ops Q i F M:=by
 intro a w hF hM
 obtain⟨es,hG,he⟩:=(hr w.heap.size).okW
 unfold Tt at hG
 split at hG
 ·rename_i s d hs
  obtain⟨o,h1,h2,h3,h4⟩:=QU hF hs
  rw[h1]
  refine XU h2 ?_
  unfold Oper.wp
  rw[h3]
  split at hG
  ·rename_i v m es' hm
   split at hG
   ·rename_i G' hp
    simp only[aD,aU] at hG
    obtain⟨⟨rfl,rfl⟩,rfl⟩:=hG
    obtain⟨w',wk,hM'⟩:=VW s M w _ _ _ hM rfl hm he
    rw[wk]
    subst h4
    exact h w.heap.size _ w' (KH hF hp) hM'
   ·cases hG
  ·rename_i m es' hm
   split at hG
   ·rename_i G' hp
    simp only[aD,aU] at hG
    obtain⟨⟨rfl,rfl⟩,rfl⟩:=hG
    obtain⟨w',wk,hM'⟩:=VW s M w _ _ _ hM rfl hm he
    rw[wk]
    subst h4
    exact h w.heap.size _ w' (KH hF hp) hM'
   ·cases hG
  ·cases hG
 ·cases hG
theorem ZH (d:Nat) (v:Nat→Value) (e:Nat→Ent) {i:Nat} (hr:∀ b,OkN (Tt P n ops.toList F M 0 b i) ((d,v b)::F) (e b::M)) (h:∀ b,TL P n w0 ops Q (i+1) ((d,v b)::F) (e b::M)):TL P n w0 ops Q i F M :=
 Ii 0 _ _ hr h
theorem Ym (j:Nat) (e:Ent) {i:Nat} (hr:∀ b,OkN (Tt P n ops.toList F M j b i) F (M.set j e)) (h:TL P n w0 ops Q (i+1) F (M.set j e)):TL P n w0 ops Q i F M :=
 Ii j (fun _=>F) (fun _=>M.set j e) hr (fun _=>h)
theorem TL.c {α:Type} (d:Nat) (x:α) (e:α→Value) {i:Nat} {f:FuncId} {args:Array Value} (hc:∀ w,Sat w0 M w→Calls P f args w (Ret w (e x))) (hs:FZ P n ops.toList F i f args d)
  (h:∀ r,x=r→TL P n w0 ops Q (i+1) ((d,e r)::F) M):TL P n w0 ops Q i F M:=by
 intro a w hF hM
 obtain⟨o,h1,h2,h3,h4⟩:=JI hF hs.at_
 rw[h1]
 refine XU h2 ?_
 unfold Oper.wp
 rw[h3 w]
 refine(hc w hM).mono fun e w' he=>?_
 obtain⟨rfl,hb⟩:=he
 simp only
 rw[h4]
 exact h x rfl _ w' (W2 hF hs.lt) (hM.later hb)
theorem TL.v (s:Sem Next) (d:Nat) (v:Value) {i:Nat} (hv:∀ w,Sat w0 M w→s.run P w=.ok (.value v) w) (hs:MP n ops.toList F i s d) (h:TL P n w0 ops Q (i+1) ((d,v)::F) M):TL P n w0 ops Q i F M:=by
 intro a w hF hM
 obtain⟨o,h1,h2,h3,h4⟩:=QU hF hs.at_
 rw[h1]
 refine XU h2 ?_
 unfold Oper.wp
 rw[h3,hv w hM]
 simp only[Oper.upon]
 rw[h4]
 exact h _ w (W2 hF hs.lt) hM
theorem Zac {Γ:Type} (s:Sem Next) (d:Nat) (v:Γ→Value) (M':Γ→Mem) {i:Nat} (hv:∀ w,Sat w0 M w→∃ g w',s.run P w=.ok (.value (v g)) w'∧Sat w0 (M' g) w') (hs:MP n ops.toList F i s d)
  (h:∀ g,TL P n w0 ops Q (i+1) ((d,v g)::F) (M' g)):TL P n w0 ops Q i F M:=by
 intro a w hF hM
 obtain⟨o,h1,h2,h3,h4⟩:=QU hF hs.at_
 rw[h1]
 refine XU h2 ?_
 unfold Oper.wp
 obtain⟨g,w',hr,hM'⟩:=hv w hM
 rw[h3,hr]
 simp only[Oper.upon]
 rw[h4]
 exact h g _ w' (W2 hF hs.lt) hM'
theorem TL.os {Γ:Type} (s:Sem Next) (d:Nat) (v:Γ→Value) (j:Nat) (e:Γ→Ent) {i:Nat} (hv:∀ w,Sat w0 M w→∃ g w',s.run P w=.ok (.value (v g)) w'∧Sat w0 (M.set j (e g)) w') (hs:MP n ops.toList F i s d)
  (h:∀ g,TL P n w0 ops Q (i+1) ((d,v g)::F) (M.set j (e g))):TL P n w0 ops Q i F M:=Zac s d v (fun g=>M.set j (e g)) hv hs h
theorem TL.on {Γ:Type} (s:Sem Next) (d:Nat) (v:Γ→Value) (e:Γ→Ent) {i:Nat} (hv:∀ w,Sat w0 M w→∃ g w',s.run P w=.ok (.value (v g)) w'∧Sat w0 (e g::M) w') (hs:MP n ops.toList F i s d)
  (h:∀ g,TL P n w0 ops Q (i+1) ((d,v g)::F) (e g::M)):TL P n w0 ops Q i F M:=Zac s d v (fun g=>e g::M) hv hs h
theorem Uk {Γ:Type} (s:Sem Next) (j:Nat) (e:Ent) {i:Nat} (hv:∀ w,Sat w0 M w→∃ (_:Γ) (w':World),s.run P w=.ok .skip w'∧Sat w0 (M.set j e) w') (hs:semAt ops.toList F i=some (s,none))
  (h:TL P n w0 ops Q (i+1) F (M.set j e)):TL P n w0 ops Q i F M:=by
 intro a w hF hM
 obtain⟨o,h1,h2,h3,h4⟩:=QU hF hs
 rw[h1]
 refine XU h2 ?_
 unfold Oper.wp
 obtain⟨_,w',hr,hM'⟩:=hv w hM
 rw[h3,hr]
 simp only[Oper.upon]
 rw[h4]
 exact h _ w' (KH (dst:=none) (v:=undef) hF rfl) hM'
theorem Sat.given {w0:Ctx} {w:World} {Mp Mr:Mem} (h:Sat w0 (Mp++Mr) w):Sat ⟨w,XS Mp⟩ Mp w :=
 ⟨Chg.refl _ _,fun e he=>⟨(h.own e (cL _ he)).1,fun _ hb=>.inl ⟨e,he,hb⟩⟩,(cY.1 h.apart).1⟩
theorem FS {α Γ:Type} (k:Nat) (d:Nat) (x:α) (v:α→Γ→Value) (Mn:α→Γ→Mem) (Mp:Mem) {i:Nat} {f:FuncId} {args:Array Value}
  (he:M=Mp++M.drop k) (hc:∀ w,Sat ⟨w,XS Mp⟩ Mp w→Calls P f args w (JD ⟨w,XS Mp⟩ (v x) (Mn x))) (hs:FZ P n ops.toList F i f args d)
  (h:∀ r,x=r→∀ g,TL P n w0 ops Q (i+1) ((d,v r g)::F) (Mn r g++M.drop k)):TL P n w0 ops Q i F M:=by
 intro a w hF hM
 obtain⟨o,h1,h2,h3,h4⟩:=JI hF hs.at_
 rw[h1]
 refine XU h2 ?_
 unfold Oper.wp
 rw[h3 w]
 refine(hc w (Sat.given (Mr:=M.drop k) (by rw[← he];exact hM))).mono fun e w' hq=>?_
 obtain⟨g,rfl,hb⟩:=hq
 simp only
 rw[h4]
 exact h x rfl g _ w' (W2 hF hs.lt) (Sat.call (by rw[← he];exact hM) hb)
theorem UR {α Γ:Type} (d:Nat) (x:α) (v:α→Γ→Value) (Mn:α→Γ→Mem) {i:Nat} {f:FuncId} {args:Array Value}
  (hc:∀ w,Sat w0 M w→Calls P f args w (JD (cx w) (v x) (Mn x))) (hs:FZ P n ops.toList F i f args d)
  (h:∀ r,x=r→∀ g,TL P n w0 ops Q (i+1) ((d,v r g)::F) (Mn r g++M)):TL P n w0 ops Q i F M:=by
 intro a w hF hM
 obtain⟨o,h1,h2,h3,h4⟩:=JI hF hs.at_
 rw[h1]
 refine XU h2 ?_
 unfold Oper.wp
 rw[h3 w]
 refine(hc w hM).mono fun e w' hq=>?_
 obtain⟨g,rfl,h2⟩:=hq
 simp only
 rw[h4]
 refine h x rfl g _ w' (W2 hF hs.lt) (Sat.call (Mp:=[]) (Mr:=M) hM ?_)
 refine⟨⟨h2.chg.os,h2.chg.tape,h2.chg.output,h2.chg.size,fun k hk _=>h2.chg.block k hk (fun h=>h),h2.chg.drawn⟩,fun e he=>⟨(h2.own e he).1,fun b hb=>?_⟩,h2.apart⟩
 rcases(h2.own e he).2 b hb with h3|h3
 ·exact h3.elim
 ·exact .inr h3
theorem Ze {id:Nat} {y:Code} (h:TL P n w0 ops (Exit.then (y.wp P Q) Q) 0 F M):TC P n w0 Q (.seq (.region id ops false) y) F M:=TC.seq (TC.region h)
theorem Zz {x y:Code} {i:Nat} (h:TC P n w0 (Exit.then (y.wp P Q) Q) x F M) (hi:Nat.ble ops.toList.length i=true:=by kernel_rfl):TL P n w0 ops (Exit.then ((Code.seq x y).wp P Q) Q) i F M:=Zb hi (TC.seq h)
theorem Zv {ln:Array Oper} {id:Nat} {y:Code} {i:Nat} (h:TL P n w0 ln (Exit.then (y.wp P Q) Q) 0 F M) (hi:Nat.ble ops.toList.length i=true:=by kernel_rfl):TL P n w0 ops (Exit.then ((Code.seq (.region id ln false) y).wp P Q) Q) i F M:=Zb hi (Ze h)
theorem Yg {y:Code} (h:TC P n w0 Q y F M):TC P n w0 (Exit.then (y.wp P Q) Q) .skip F M:=TC.skip (Z4 h)
theorem ZI {id:Nat} {y:Code} (h:TL P n w0 ops (Exit.then (y.wp P Q) Q) 0 F M):TC P n w0 (Exit.then ((Code.seq (.region id ops false) y).wp P Q) Q) .skip F M:=Yg (Ze h)
theorem YZ {id:Nat} {y:Code} (h:TL P n w0 ops (Exit.then (y.wp P Q) Q) 0 F M):TE n w0 (Exit.then ((Code.seq (.region id ops false) y).wp P Q) Q) .normal F M:=Z4 (Ze h)
theorem Zq {K:Act→World→Prop} (h:TE n w0 Q .ret F M):TE n w0 (Exit.then K Q) .ret F M:=h
theorem ZY {id:Nat} (h:TE n w0 Q .ret F M):TE n w0 (Exit.inBlock id Q) .ret F M:=h
theorem Yc {id:Nat} {K:Act→World→Prop} (h:TE n w0 Q (.exit id) F M):TE n w0 (Exit.then K Q) (.exit id) F M:=h
theorem Yr {id:Nat} (h:TE n w0 Q .normal F M):TE n w0 (Exit.inBlock id Q) .normal F M:=h
theorem XB {X:Type} (Fs:X→ZJ) (Ms:X→Mem) (m:X→Nat) (I:X→Prop) {c:Code}
  (round:∀ x,I x→TC P n w0 (Exit.then (fun a w=>∃ y,I y∧m y<m x∧Fr n (Fs y) a∧Sat w0 (Ms y) w) Q) c (Fs x) (Ms x)) (x:X) (hx:I x) (hp:pick ((Fs x).map Prod.fst) F=some (Fs x)) (hs:(Ms x).Sublist M):TC P n w0 Q (.loop c) F M :=
 J2 (Fs x) hp (SA (Ms x) hs (TC.loop Fs Ms m I round x hx))
end
section
variable {P:Program} {n:Nat} {w0:Ctx} {ops:Array Oper} {Q:Act→Prop} {N:Nat} {F:ZJ} {M:Mem}
theorem M8 (k:Nat) (hs:List Nat) (A F0:ZJ) {i:Nat} (kr:∀ s v,look s F=some v→look s F0=some v) (hr:OkA P n (ops.toList.take N) ops.toList M i k hs A F0 F) (h:TQ P n w0 ops Q N k (A++F) M):TQ P n w0 ops Q N i F0 M:=by
 intro a hF
 obtain⟨G,es,hG,he,hs'⟩:=MO hr kr
 rw[UF (ops.toList.take N) (aL hr.le)]
 exact VG _ _ _ _ _ _ a hF hG he (fun a' ha'=>h a' (ha'.sub hs'))
theorem JA (k:Nat) (hs:List Nat) (A:ZJ) {i:Nat} (hr:OkA P n (ops.toList.take N) ops.toList M i k hs A F F) (h:TQ P n w0 ops Q N k (A++F) M):TQ P n w0 ops Q N i F M :=
 M8 k hs A F (fun _ _ h=>h) hr h
theorem Za0 (t:Nat) (b:Bool) (k:Nat) (hs1 hs2:List Nat) (A:Bool→ZJ) {i:Nat} (ht:look t F=some (.bool b)) (h1:OkA P n (ops.toList.take N) ops.toList M i k hs1 (A true) ((t,.bool true)::F) F)
  (h2:OkA P n (ops.toList.take N) ops.toList M i k hs2 (A false) ((t,.bool false)::F) F) (h:TQ P n w0 ops Q N k (A b++F) M):TQ P n w0 ops Q N i F M:=by
 refine DL t b ht (fun e=>?_) (fun e=>?_)
 ·subst e;exact M8 k hs1 (A true) _ (GU ht) h1 h
 ·subst e;exact M8 k hs2 (A false) _ (GU ht) h2 h
theorem TQ.c {α:Type} (d:Nat) (x:α) (e:α→Value) {i:Nat} {f:FuncId} {args:Array Value} (hc:∀ w,Sat w0 M w→Calls P f args w (Ret w (e x))) (hi:Nat.blt i N=true) (hs:FZ P n ops.toList F i f args d)
  (h:∀ r,x=r→TQ P n w0 ops Q N (i+1) ((d,e r)::F) M):TQ P n w0 ops Q N i F M:=by
 intro a hF
 obtain⟨o,h1,h2,h3,h4⟩:=JI hF hs.at_
 obtain⟨r,h5,rfl⟩:=take_at hi h1
 rw[h5]
 unfold wpQuiet
 rw[if_pos h2]
 refine⟨e x,fun w hM=>?_,by rw[h4];exact h x rfl _ (W2 hF hs.lt)⟩
 unfold Oper.quietAt
 rw[h3 w]
 exact⟨rfl,(hc w hM).mono fun e w' he=>⟨he.1,hM.later he.2⟩⟩
theorem TQ.v (s:Sem Next) (d:Nat) (v:Value) {i:Nat} (hv:∀ w,Sat w0 M w→s.run P w=.ok (.value v) w) (hi:Nat.blt i N=true) (hs:MP n ops.toList F i s d) (h:TQ P n w0 ops Q N (i+1) ((d,v)::F) M):TQ P n w0 ops Q N i F M:=by
 intro a hF
 obtain⟨o,h1,h2,h3,h4⟩:=QU hF hs.at_
 obtain⟨r,h5,rfl⟩:=take_at hi h1
 rw[h5]
 unfold wpQuiet
 rw[if_pos h2]
 refine⟨v,fun w hM=>?_,by rw[h4];exact h _ (W2 hF hs.lt)⟩
 unfold Oper.quietAt
 rw[h3,hv w hM]
 exact⟨rfl,rfl⟩
end
end Go.Eng
end
section
namespace Go.Sky
open Go Go.Eng Go.Proofs
def cmp_isNaN_int (x:Int):Bool :=
 x != x
theorem Gp (x:Int) (w:World):Calls Tryz.prog 121 #[.int .i64 x] w (Ret w (.bool (cmp_isNaN_int x))):=by
 refine Zo (vs:=[.int .i64 x]) (w:=w) Tryz.func121 rfl Tryz.ntmps121 rfl ?_
 refine TC.seq ?_
 refine TC.region ?_
 refine Zc 1 [] [(2,.bool false)] {} ?_
 refine Zb rfl ?_
 refine TC.seq ?_
 refine TC.region ?_
 refine Zc 4 [] [(2,.bool (x != x))] {} ?_
 refine Zb rfl ?_
 refine TC.ret ?_
 exact TE.ret [] (.bool (x != x)) {} (by unfold cmp_isNaN_int;refine eS (fun z=>(.bool z:Value)) ?_;exact rfl)
def cmp_Compare_int (x:Int) (y:Int):Int :=
 let r1:=cmp_isNaN_int x
 let r2:=cmp_isNaN_int y
 cond r1 (
  cond r2 (
   0) (
   (-1))) (
  cond r2 (
   1) (
   cond (decide (x<y)) (
    (-1)) (
    cond (decide (x>y)) (
     1) (
     0))))
theorem Xz (x:Int) (y:Int) (w:World):Calls Tryz.prog 76 #[.int .i64 x,.int .i64 y] w (Ret w (.int .i64 (cmp_Compare_int x y))):=by
 refine Zo (vs:=[.int .i64 x,.int .i64 y]) (w:=w) Tryz.func76 rfl Tryz.ntmps76 rfl ?_
 refine TC.seq ?_
 refine TC.region ?_
 refine Zc 1 [] [(4,.int .i64 0)] {} ?_
 refine Zb rfl ?_
 refine TC.seq ?_
 refine TC.region ?_
 refine Zc 1 [] [(7,.int .i64 x)] {} ?_
 refine TL.c 8 (cmp_isNaN_int x) (fun r1=>.bool r1) (fun w _=>Gp x w) {} (fun r1 hr1=>?_)
 refine Zc 3 [] [(5,.bool r1)] {} ?_
 refine Zb rfl ?_
 refine TC.seq ?_
 refine TC.region ?_
 refine Zc 1 [] [(9,.int .i64 y)] {} ?_
 refine TL.c 10 (cmp_isNaN_int y) (fun r2=>.bool r2) (fun w _=>Gp y w) {} (fun r2 hr2=>?_)
 refine Zc 3 [] [(6,.bool r2)] {} ?_
 refine Zb rfl ?_
 refine TC.seq ?_
 refine TC.seq ?_
 refine TC.region ?_
 refine Zc 1 [] [(11,.bool r1)] {} ?_
 refine Zb rfl ?_
 refine TC.cond r1 rfl (by kernel_rfl) (fun h1=>?_) (fun h1=>?_)
 ·refine TC.seq ?_
  refine TC.seq ?_
  refine TC.region ?_
  refine Zc 1 [] [(12,.bool r2)] {} ?_
  refine Zb rfl ?_
  refine TC.cond r2 rfl (by kernel_rfl) (fun h2=>?_) (fun h2=>?_)
  ·refine TC.seq ?_
   refine TC.region ?_
   refine Zc 1 [] [(4,.int .i64 0)] {} ?_
   refine Zb rfl ?_
   refine TC.ret ?_
   refine Jj (Jj ?_)
   exact TE.ret [] (.int .i64 0) {} (by unfold cmp_Compare_int;refine eS (fun z=>(.int .i64 z:Value)) ?_;subst hr1 hr2;exact Zk h1 (Zk h2 (rfl)))
  ·refine TC.skip ?_
   refine Z4 ?_
   refine TC.seq ?_
   refine TC.region ?_
   refine Zc 1 [] [(4,.int .i64 (-1))] {} ?_
   refine Zb rfl ?_
   refine TC.ret ?_
   refine Jj ?_
   exact TE.ret [] (.int .i64 (-1)) {} (by unfold cmp_Compare_int;refine eS (fun z=>(.int .i64 z:Value)) ?_;subst hr1 hr2;exact Zk h1 (Zd h2 (rfl)))
 ·refine TC.skip ?_
  refine Z4 ?_
  refine TC.seq ?_
  refine TC.seq ?_
  refine TC.region ?_
  refine Zc 1 [] [(13,.bool r2)] {} ?_
  refine Zb rfl ?_
  refine TC.cond r2 rfl (by kernel_rfl) (fun h3=>?_) (fun h3=>?_)
  ·refine TC.seq ?_
   refine TC.region ?_
   refine Zc 1 [] [(4,.int .i64 1)] {} ?_
   refine Zb rfl ?_
   refine TC.ret ?_
   refine Jj ?_
   exact TE.ret [] (.int .i64 1) {} (by unfold cmp_Compare_int;refine eS (fun z=>(.int .i64 z:Value)) ?_;subst hr1 hr2;exact Zd h1 (Zk h3 (rfl)))
  ·refine TC.skip ?_
   refine Z4 ?_
   refine TC.seq ?_
   refine TC.seq ?_
   refine TC.region ?_
   refine Zc 3 [] [(16,.bool (decide (x<y)))] {} ?_
   refine Zb rfl ?_
   refine TC.cond (decide (x<y)) rfl (by kernel_rfl) (fun h4=>?_) (fun h4=>?_)
   ·refine TC.seq ?_
    refine TC.region ?_
    refine Zc 1 [] [(4,.int .i64 (-1))] {} ?_
    refine Zb rfl ?_
    refine TC.ret ?_
    refine Jj ?_
    exact TE.ret [] (.int .i64 (-1)) {} (by unfold cmp_Compare_int;refine eS (fun z=>(.int .i64 z:Value)) ?_;subst hr1 hr2;exact Zd h1 (Zd h3 (Zk h4 (rfl))))
   ·refine TC.skip ?_
    refine Z4 ?_
    refine TC.seq ?_
    refine TC.seq ?_
    refine TC.region ?_
    refine Zc 3 [] [(19,.bool (decide (x>y)))] {} ?_
    refine Zb rfl ?_
    refine TC.cond (decide (x>y)) rfl (by kernel_rfl) (fun h5=>?_) (fun h5=>?_)
    ·refine TC.seq ?_
     refine TC.region ?_
     refine Zc 1 [] [(4,.int .i64 1)] {} ?_
     refine Zb rfl ?_
     refine TC.ret ?_
     refine Jj ?_
     exact TE.ret [] (.int .i64 1) {} (by unfold cmp_Compare_int;refine eS (fun z=>(.int .i64 z:Value)) ?_;subst hr1 hr2;exact Zd h1 (Zd h3 (Zd h4 (Zk h5 (rfl)))))
    ·refine TC.skip ?_
     refine Z4 ?_
     refine TC.seq ?_
     refine TC.region ?_
     refine Zc 1 [] [(4,.int .i64 0)] {} ?_
     refine Zb rfl ?_
     refine TC.ret ?_
     exact TE.ret [] (.int .i64 0) {} (by unfold cmp_Compare_int;refine eS (fun z=>(.int .i64 z:Value)) ?_;subst hr1 hr2;exact Zd h1 (Zd h3 (Zd h4 (Zd h5 (rfl)))))
def JU:List Int→Nat→((Unit) ⊕ (Int))
 | [],_=>.inl ()
 | x::xs,k=>cond (x != 0) (
   .inr x) (
   JU xs (k+1))
def KP (vals:List Int):Int :=
 Sum.elim (fun _ =>
  0) (fun r=>r) (JU vals 0)
theorem WR (A_vals:Option Addr) (wz:Nat) (vals:List Int) (w:World) (pw:Rd w 1 A_vals (vals.map ic)) (_hc_vals:vals.length≤wz):Calls Tryz.prog 75 #[.slice A_vals vals.length wz] w (Ret w (.int .i64 (KP vals))):=by
 have s8:=pw.short;rw[aF] at s8
 refine Zo (vs:=[.slice A_vals vals.length wz]) (w:=w) Tryz.func75 rfl Tryz.ntmps75 rfl ?_
 refine TC.seq ?_
 refine TC.region ?_
 refine Zc 1 [] [(2,.int .i64 0)] {} ?_
 refine Zb rfl ?_
 refine TC.seq ?_
 refine TC.region ?_
 refine Zc 1 [] [(3,.int .i64 0)] {} ?_
 refine Zb rfl ?_
 refine TC.seq ?_
 refine TC.seq ?_
 refine TC.region ?_
 refine Zc 3 [] [(6,.slice A_vals vals.length wz),(7,.int .i64 (vals.length:Int)),(8,.int .i64 0)] {} ?_
 refine Zb rfl ?_
 obtain⟨R1,hR⟩:∃ R,R=JU vals 0:=⟨_,rfl⟩
 refine TC.cut (S:=Unit) (fun (_:Unit)=>[(3,.int .i64 0)]) (fun (_:Unit)=>[]) (fun (_:Unit)=>R1=.inl ()) ?_ ?_
 ·refine TC.block ?_
  refine XB (X:=Nat) (fun k=>[(3,.int .i64 0),(6,.slice A_vals vals.length wz),(7,.int .i64 (vals.length:Int)),(8,.int .i64 (k:Int))]) (fun k=>[]) (fun k=>vals.length-k) (fun k=>k≤vals.length∧R1=JU (vals.drop k) k) ?_ 0 ⟨aN _,hR⟩ (by kernel_rfl) (sb 0)
  rintro k ⟨hk,hI⟩
  refine TC.seq ?_
  refine TC.region ?_
  refine Zc 1 [] [(9,.bool (decide ((k:Int)<(vals.length:Int))))] {} ?_
  refine Zb rfl ?_
  refine TC.seq ?_
  refine TC.cond (decide ((k:Int)<(vals.length:Int))) rfl (by kernel_rfl) (fun h1=>?_) (fun h1=>?_)
  ·have hlt:=ltN h1
   obtain⟨x,hx⟩:=elN hlt
   have hd:=drop_at hx
   refine TC.skip ?_
   refine Z4 ?_
   refine TC.seq ?_
   refine TC.block ?_
   refine TC.seq ?_
   refine TC.region ?_
   refine TL.v (sV (Instr.indexAt 22 (.slice A_vals vals.length wz) (.int .i64 (k:Int)))) 10 (.pointer (some ((A_vals.getD Y4).add (k*1)))) (fun w hM=>Zy (pw.sat hM) (by simp) (by kernel_rfl) sd sd) {} ?_
   refine TL.v (sV (Instr.loadAt 3 (.pointer (some ((A_vals.getD Y4).add (k*1)))))) 11 (.int .i64 x) (fun w hM=>Z3 (off:=0) (i:=k) (.int .i64 x) (pw.sat hM) (ZR hx) (by kernel_rfl) (by kernel_rfl)) {} ?_
   refine Zc 3 [] [(5,.int .i64 x)] {} ?_
   refine Zb rfl ?_
   refine TC.seq ?_
   refine TC.region ?_
   refine Zc 3 [] [(14,.bool (x != 0))] {} ?_
   refine Zb rfl ?_
   refine TC.cond (x != 0) rfl (by kernel_rfl) (fun h2=>?_) (fun h2=>?_)
   ·refine TC.seq ?_
    refine TC.region ?_
    refine Zc 2 [] [(2,.int .i64 x)] {} ?_
    refine Zb rfl ?_
    refine TC.ret ?_
    refine Ht (Jj (Jj (Ht (Jj (Jj ?_)))))
    exact TE.ret [] (.int .i64 x) {} (by unfold KP;refine eS (fun z=>(.int .i64 z:Value)) ?_;exact Q4 (hR.symm.trans (hI.trans (by rw[hd];exact Zk h2 (rfl)))) rfl)
   ·have vr:=(Jb h2)
    refine TC.skip ?_
    refine Gu ?_
    refine Z4 ?_
    refine TC.region ?_
    refine Zc 2 [] [(8,.int .i64 (w64 ((k:Int)+1)))] {} ?_
    refine Z2 rfl ?_
    refine TE.rw 8 (.int .i64 (w64 ((k:Int)+1))) (.int .i64 ((k+1:Nat):Int)) (by kernel_rfl) (ZT k (by omega)) ?_
    exact Z7 (x:=k) (k+1) ⟨by omega,hI.trans (by rw[hd];exact Zd h2 (rfl))⟩ (mN hlt) (by kernel_rfl) (sb 0)
  ·have hd:=QE h1
   refine TC.exit ?_
   refine VS (VS (Z1 ?_))
   exact TE.cut () (hI.trans (by rw[hd];exact rfl)) (by kernel_rfl) (sb 0)
 ·intro _ hJ
  refine Z4 ?_
  refine TC.seq ?_
  refine TC.region ?_
  refine Zc 2 [] [(2,.int .i64 0)] {} ?_
  refine Zb rfl ?_
  refine TC.ret ?_
  exact TE.ret [] (.int .i64 0) {} (by unfold KP;refine eS (fun z=>(.int .i64 z:Value)) ?_;exact Q2 (hR.symm.trans hJ) (rfl))
end Go.Sky
end
section
namespace Go.Glue
open Go.ChangeShapes Go.WideShapes Go.ChangeAt Go.RowKit Go.Deep Go.Eng
def It (P:Program) (t:TypeId) {α:Type} (c:α→Array Value) (ok:World→α→Prop):Prop :=
 ∀ {H:Type} {enc:TypeId×Value→H} {W:World} {base:Nat} {sp:Nat→Bool} {hd:Bool} {fuel:Nat} {cs:List Value} {x:DataW H×List MemPlace},
  DataW.trod enc P W base sp hd fuel t cs=some x→(∀ n∈x.1.weights P t,n≤reachBytes)→∃ a,cs=(c a).toList∧ok W a
theorem MM.w {P:Program} {t:TypeId} {α:Type} {c:α→Array Value} {ok:α→Prop} (h:MM P t c ok):It P t c (fun _=>ok):=fun h1 _=>h h1
section
variable {H:Type} {enc:TypeId×Value→H} {P:Program} {W:World} {base b0:Nat} {sp:Nat→Bool} {hd:Bool} {t:TypeId} {v:Value} {d:DataW H} {p:List MemPlace}
end
section
variable {H:Type} {enc:TypeId×Value→H} {P:Program} {W:World} {base b0:Nat} {sp:Nat→Bool} {hd:Bool} {t:TypeId} {v:Value} {d:DataW H} {p:List MemPlace}
end
end Go.Glue
namespace Go.Sky
open Go Go.Eng Go.Glue
structure VA where
 (At:P)
 (Size NX NY:Int)
 (Heights:List Int)
deriving DecidableEq
def VA.zero:VA:=⟨⟨0,0⟩,0,0,0,[]⟩
def VA.ok (x:VA):Prop:=x.At.ok∧I64 x.Size∧I64 x.NX∧I64 x.NY∧(x.Heights.length<4611686018427387904∧∀ a∈x.Heights,I64 a)
structure K6 where
 (At:P)
 (Size NX NY:Int)
 (Heights:Sl Int)
def K6.p (x:K6):VA:=⟨x.At,x.Size,x.NX,x.NY,x.Heights.l⟩
def K6.c (x:K6):Array Value:=#[.int .i64 x.At.X,.int .i64 x.At.Y,.int .i64 x.Size,.int .i64 x.NX,.int .i64 x.NY,.slice x.Heights.A x.Heights.l.length x.Heights.cap]
theorem K6.one (x:K6):x.c.toList.all Value.oneCell'=true:=rfl
structure Zs where
 (Radar Time:Int)
 (Plots:List Zr)
deriving DecidableEq
def Zs.zero:Zs:=⟨0,0,[]⟩
def Zs.ok (x:Zs):Prop:=I64 x.Radar∧I64 x.Time∧(x.Plots.length<4611686018427387904∧∀ a∈x.Plots,a.ok)
structure Zp where
 (Radar Time:Int)
 (Plots:Sl Zr)
def Zp.p (x:Zp):Zs:=⟨x.Radar,x.Time,x.Plots.l⟩
def Zp.c (x:Zp):Array Value:=#[.int .i64 x.Radar,.int .i64 x.Time,.slice x.Plots.A x.Plots.l.length x.Plots.cap]
theorem Zp.one (x:Zp):x.c.toList.all Value.oneCell'=true:=rfl
end Go.Sky
end
