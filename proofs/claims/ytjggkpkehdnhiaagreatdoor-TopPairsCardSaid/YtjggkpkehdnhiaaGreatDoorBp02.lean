/- Lemmas toward the given statement (part 2 of 20): Eqb Row Plan Glue Ok Fct Delta Sa Thick. Each theorem states its own conditions; nothing is assumed beyond them. -/
import Derived.Test.YtjggkpkehdnhiaaGreatDoorBp01
import Derived.Maps.AppendAt
import Derived.Laws.OwnMore
import Derived.Laws.CopyRow
import Derived.ProofKit
import Derived.SizedLaws
import Derived.Deep.Slices
import Derived.Test.YtjggkpkehdnhiaaGreatDoorRows
set_option maxRecDepth 100000
section
namespace Go.Sky
open Go.Eng
def P.eqb (a b:P):Bool:=((a.X==b.X)&&((a.Y==b.Y)&&true))
theorem P.eqb_eq (a b:P):P.eqb a b=decide (a=b):=by
 rw[bJ,decide_eq_true_iff]
 cases a;cases b
 simp[P.eqb]
def Zs.eqb (a b:Zs):Bool:=((a.Radar==b.Radar)&&((a.Time==b.Time)&&((a.Range==b.Range)&&((a.Azimuth==b.Azimuth)&&((a.Height==b.Height)&&((a.Code==b.Code)&&true))))))
theorem Zs.eqb_eq (a b:Zs):Zs.eqb a b=decide (a=b):=by
 rw[bJ,decide_eq_true_iff]
 cases a;cases b
 simp[Zs.eqb]
def XV.eqb (a b:XV):Bool:=((a.Range==b.Range)&&((a.Azimuth==b.Azimuth)&&((a.Time==b.Time)&&true)))
theorem XV.eqb_eq (a b:XV):XV.eqb a b=decide (a=b):=by
 rw[bJ,decide_eq_true_iff]
 cases a;cases b
 simp[XV.eqb]
def Zn.eqb (a b:Zn):Bool:=((a.ID==b.ID)&&(P.eqb a.At b.At&&((a.Reach==b.Reach)&&((a.RangeError==b.RangeError)&&((a.AzimuthError==b.AzimuthError)&&true)))))
theorem Zn.eqb_eq (a b:Zn):Zn.eqb a b=decide (a=b):=by
 rw[bJ,decide_eq_true_iff]
 cases a;cases b
 simp[Zn.eqb,P.eqb_eq]
def Track.eqb (a b:Track):Bool:=((a.ID==b.ID)&&((a.State==b.State)&&((a.Time==b.Time)&&(P.eqb a.At b.At&&(P.eqb a.Speed b.Speed&&((a.Height==b.Height)&&((a.Rate==b.Rate)&&((a.Radius==b.Radius)&&((a.Code==b.Code)&&((a.Hits==b.Hits)&&((a.Misses==b.Misses)&&true)))))))))))
theorem Track.eqb_eq (a b:Track):Track.eqb a b=decide (a=b):=by
 rw[bJ,decide_eq_true_iff]
 cases a;cases b
 simp[Track.eqb,P.eqb_eq]
def Zj.eqb (a b:Zj):Bool:=((a.Time==b.Time)&&(P.eqb a.At b.At&&((a.Height==b.Height)&&((a.Code==b.Code)&&((a.Error==b.Error)&&true)))))
theorem Zj.eqb_eq (a b:Zj):Zj.eqb a b=decide (a=b):=by
 rw[bJ,decide_eq_true_iff]
 cases a;cases b
 simp[Zj.eqb,P.eqb_eq]
def Za.eqb (a b:Za):Bool:=(Track.eqb a.Track b.Track&&((a.Slack==b.Slack)&&(Zj.eqb a.Last b.Last&&true)))
theorem Za.eqb_eq (a b:Za):Za.eqb a b=decide (a=b):=by
 rw[bJ,decide_eq_true_iff]
 cases a;cases b
 simp[Za.eqb,Zj.eqb_eq,Track.eqb_eq]
def Zg.eqb (a b:Zg):Bool:=((a.Hits==b.Hits)&&((a.Scans==b.Scans)&&true))
theorem Zg.eqb_eq (a b:Zg):Zg.eqb a b=decide (a=b):=by
 rw[bJ,decide_eq_true_iff]
 cases a;cases b
 simp[Zg.eqb]
def XC.eqb (a b:XC):Bool:=((a.Time==b.Time)&&((a.Level==b.Level)&&true))
theorem XC.eqb_eq (a b:XC):XC.eqb a b=decide (a=b):=by
 rw[bJ,decide_eq_true_iff]
 cases a;cases b
 simp[XC.eqb]
def Sep.eqb (a b:Sep):Bool:=((a.Lateral==b.Lateral)&&((a.Vertical==b.Vertical)&&true))
theorem Sep.eqb_eq (a b:Sep):Sep.eqb a b=decide (a=b):=by
 rw[bJ,decide_eq_true_iff]
 cases a;cases b
 simp[Sep.eqb]
def Q9.eqb (a b:Q9):Bool:=((a.A==b.A)&&((a.B==b.B)&&((a.Seconds==b.Seconds)&&true)))
theorem Q9.eqb_eq (a b:Q9):Q9.eqb a b=decide (a=b):=by
 rw[bJ,decide_eq_true_iff]
 cases a;cases b
 simp[Q9.eqb]
def GZ.eqb (a b:GZ):Bool:=((a.From==b.From)&&((a.To==b.To)&&true))
theorem GZ.eqb_eq (a b:GZ):GZ.eqb a b=decide (a=b):=by
 rw[bJ,decide_eq_true_iff]
 cases a;cases b
 simp[GZ.eqb]
def Node.eqb (a b:Node):Bool:=((a.Time==b.Time)&&(P.eqb a.At b.At&&((a.Height==b.Height)&&true)))
theorem Node.eqb_eq (a b:Node):Node.eqb a b=decide (a=b):=by
 rw[bJ,decide_eq_true_iff]
 cases a;cases b
 simp[Node.eqb,P.eqb_eq]
def Zd.eqb (a b:Zd):Bool:=(Node.eqb a.Node b.Node&&((a.Radius==b.Radius)&&((a.Band==b.Band)&&true)))
theorem Zd.eqb_eq (a b:Zd):Zd.eqb a b=decide (a=b):=by
 rw[bJ,decide_eq_true_iff]
 cases a;cases b
 simp[Zd.eqb,Node.eqb_eq]
def ZB.eqb (a b:ZB):Bool:=((a.Need==b.Need)&&((a.Of==b.Of)&&((a.Misses==b.Misses)&&((a.Accel==b.Accel)&&((a.Place==b.Place)&&((a.Speed==b.Speed)&&true))))))
theorem ZB.eqb_eq (a b:ZB):ZB.eqb a b=decide (a=b):=by
 rw[bJ,decide_eq_true_iff]
 cases a;cases b
 simp[ZB.eqb]
def followed.eqb (a b:followed):Bool:=(Za.eqb a.f b.f&&(Zg.eqb a.history b.history&&((a.hit==b.hit)&&true)))
theorem followed.eqb_eq (a b:followed):followed.eqb a b=decide (a=b):=by
 rw[bJ,decide_eq_true_iff]
 cases a;cases b
 simp[followed.eqb,Zg.eqb_eq,Za.eqb_eq]
end Go.Sky
end
section
namespace Go.Eng
def flat (rows:List (Array Value)):List Value:=(rows.map Array.toList).flatten
theorem Uo (r s:List (Array Value)):flat (r++s)=flat r++flat s:=by simp[flat]
theorem KG (r:Array Value) (s:List (Array Value)):flat (r::s)=r.toList++flat s:=by simp[flat]
theorem JA {sz:Nat}:∀ (rows:List (Array Value)),(∀ r∈rows,r.size=sz)→(flat rows).length=rows.length*sz
 | [],_=>by simp[flat]
 | r::rows,h=>by
  rw[KG,aW,JA rows (fun r hr=>h r (by simp[hr])),bC,h r (by simp),aI,dF];omega
theorem Hy {sz:Nat}:∀ (rows:List (Array Value)) (n:Nat),(∀ r∈rows,r.size=sz)→(flat rows).take (n*sz)=flat (rows.take n)
 | [],n,_=>by simp[flat]
 | r::rows,0,_=>by simp[flat]
 | r::rows,n+1,h=>by
  have hr:r.toList.length=sz:=by rw[bC];exact h r (by simp)
  rw[KG,fC,KG,gV,← Hy rows n (fun r hr=>h r (by simp[hr])),hr,cA (by rw[hr,dF];omega)]
  congr 2
  rw[dF];omega
structure I5 (A:Option Addr) (cap:Nat) (e:TypeId) (sz:Nat) (rows:List (Array Value)) (w:World) (g:Nat) (cur:Array Value):Prop where
 at_:A=some ⟨g,0,none⟩
 pos:0<cap
 heap:w.heap[g]?=some (.cells cur e (0,0))
 le:rows.length≤cap
 max:cap≤maxLen
 size:cur.size=cap*sz
 holds:cur.toList.take (rows.length*sz)=flat rows
 each:∀ r∈rows,r.size=sz
 short:rows.length<4611686018427387904
def Uj (A:Option Addr) (cap:Nat) (e:TypeId) (sz:Nat) (rows:List (Array Value)) (w:World):Prop:=(cap=0∧rows=[])∨∃ g cur,I5 A cap e sz rows w g cur
theorem Uj.nil (A:Option Addr) (e:TypeId) (sz:Nat) (w:World):Uj A 0 e sz [] w:=.inl ⟨rfl,rfl⟩
def Own (A:Option Addr) (cap:Nat) (e:TypeId) (sz:Nat) (rows:List (Array Value)):Res where
 foot b:=0<cap∧∃ a,A=some a∧a.block=b
 holds:=Uj A cap e sz rows
 lt w h b hb:=by
  obtain⟨hp,a,rfl,rfl⟩:=hb
  rcases h with ⟨h1,_⟩|⟨g,cur,h⟩
  ·omega
  ·have h1:=h.at_
   simp only[aF] at h1;subst h1;exact WH h.heap
 kept w w' h hk:=by
  rcases h with h|⟨g,cur,h⟩
  ·exact .inl h
  ·exact .inr ⟨g,cur,{ h with heap:=(hk g ⟨h.pos,_,h.at_,rfl⟩).trans h.heap }⟩
abbrev Ow (A:Option Addr) (cap:Nat) (e:TypeId) (sz:Nat) (rows:List (Array Value)):Ent:=.inr (Own A cap e sz rows)
theorem Uj.each {w:World} {A:Option Addr} {cap:Nat} {e:TypeId} {sz:Nat} {rows:List (Array Value)} (h:Uj A cap e sz rows w):∀ r∈rows,r.size=sz:=by
 rcases h with ⟨_,rfl⟩|⟨g,cur,h⟩
 ·simp
 ·exact h.each
theorem Uj.short {w:World} {A:Option Addr} {cap:Nat} {e:TypeId} {sz:Nat} {rows:List (Array Value)} (h:Uj A cap e sz rows w):rows.length<4611686018427387904:=by
 rcases h with ⟨_,rfl⟩|⟨g,cur,h⟩
 ·simp
 ·exact h.short
theorem Uj.le {w:World} {A:Option Addr} {cap:Nat} {e:TypeId} {sz:Nat} {rows:List (Array Value)} (h:Uj A cap e sz rows w):rows.length≤cap:=by
 rcases h with ⟨_,rfl⟩|⟨g,cur,h⟩
 ·simp
 ·exact h.le
theorem V3 (g j:Nat):(⟨g,0,none⟩:Addr).add j=⟨g,j,none⟩:=by unfold Addr.add;split <;> simp_all
theorem I5.cell {w:World} {A:Option Addr} {cap:Nat} {e:TypeId} {sz:Nat} {rows:List (Array Value)} {g:Nat} {cur:Array Value} (h:I5 A cap e sz rows w g cur) {j:Nat} {v:Value} (hf:(flat rows)[j]?=some v):w.cell? ⟨g,j,none⟩=some v:=by
 rw[← h.holds,gI] at hf
 rw[cell_of_row w g _ cur e (0,0) h.heap]
 split at hf
 ·simpa using hf
 ·cases hf
theorem Uj.rd {w:World} {A:Option Addr} {cap:Nat} {e:TypeId} {sz:Nat} {rows:List (Array Value)} (h:Uj A cap e sz rows w):Rd w sz A rows:=by
 refine⟨h.short,fun i r hi=>?_⟩
 rcases h with ⟨_,rfl⟩|⟨g,cur,h⟩
 ·simp at hi
 ·refine⟨h.each r (aR hi),_,h.at_,WH h.heap,fun j v hv=>?_⟩
  rw[V3]
  exact h.cell (WL rows h.each i r hi j v hv)
theorem Sat.res {w0:Ctx} {w:World} {M:Mem} (h:Sat w0 M w) {j:Nat} {r:Res} (hj:M[j]?=some (.inr r)):r.holds w:=(h.own _ (aR hj)).1
theorem Sat.own_at {w0:Ctx} {w:World} {M:Mem} {A:Option Addr} {cap:Nat} {e:TypeId} {sz:Nat} {rows:List (Array Value)} (h:Sat w0 M w) (j:Nat) (hj:M[j]?=some (.inr (Own A cap e sz rows))):Uj A cap e sz rows w:=h.res hj
theorem Sat.rd_at {w0:Ctx} {w:World} {M:Mem} {A:Option Addr} {cap:Nat} {e:TypeId} {sz:Nat} {rows:List (Array Value)} (h:Sat w0 M w) (j:Nat) (hj:M[j]?=some (.inr (Own A cap e sz rows))):Rd w sz A rows:=(h.own_at j hj).rd
theorem Sat.emptyrow {w0:Ctx} {w:World} {M:Mem} (A:Option Addr) (e:TypeId) (sz:Nat) (h:Sat w0 M w):Sat w0 (.inr (Own A 0 e sz [])::M) w :=
 h.push (Below.refl _ _) _ (Uj.nil A e sz w) (fun b hb=>absurd hb.1 (by omega))
theorem Sat.le_at {α:Type} {c:α→Array Value} {l:List α} {w0:Ctx} {w:World} {M:Mem} {A:Option Addr} {cap:Nat} {e:TypeId} {sz:Nat} (h:Sat w0 M w) (j:Nat) (hj:M[j]?=some (.inr (Own A cap e sz (l.map c)))):l.length≤cap:=by
 have:=(h.own_at j hj).le
 rwa [aD] at this
theorem Sat.short_at {α:Type} {c:α→Array Value} {l:List α} {w0:Ctx} {w:World} {M:Mem} {A:Option Addr} {cap:Nat} {e:TypeId} {sz:Nat} (h:Sat w0 M w) (j:Nat) (hj:M[j]?=some (.inr (Own A cap e sz (l.map c)))):l.length<4611686018427387904:=by
 have:=(h.own_at j hj).short
 rwa [aD] at this
theorem La {α:Type} {c:α→Array Value} {w:World} {sz:Nat} {l:List α} (h:Rd w sz none (l.map c)):l=[]:=by
 cases l with
 | nil=>rfl
 | cons x l=>obtain⟨_,ad,h2,_⟩:=h.row 0 (c x) rfl;cases h2
theorem Sat.litrow {w0:Ctx} {w:World} {M:Mem} {b e sz:Nat} {c:Array Value} (h:Sat w0 M w) (j:Nat) (rows:List (Array Value)) (hj:M[j]?=some (.inl (b,.cells c e (0,0)))) (hl:Nat.blt rows.length 4611686018427387904=true)
  (hs:rows.all (fun r=>Nat.beq r.size sz)=true) (hc:c.toList=flat rows) {n:Nat} (hn:Nat.beq n rows.length=true):Sat w0 (M.set j (.inr (Own (some ⟨b,0,none⟩) n e sz rows))) w:=by
 have hn:=bH hn
 subst hn
 have jl:∀ r∈rows,r.size=sz:=fun r hr=>bH (bF.1 hs r hr)
 have hlt:rows.length<4611686018427387904:=aN hl
 have hb:=h.block (aR hj)
 have hlen:=JA rows jl
 refine h.step hj (Chg.refl _ _) ?_ (fun b' hb'=>?_)
 ·rcases bX rows.length with h0|h0
  ·exact .inl ⟨h0,fS h0⟩
  ·refine .inr ⟨b,c,rfl,h0,hb,aU _,by simp only[maxLen];omega,?_,?_,jl,hlt⟩
   ·rw[← bC,hc,hlen]
   ·rw[hc,← hlen,gU]
 ·obtain⟨_,a,h1,rfl⟩:=hb'
  simp only[aF] at h1
  subst h1
  exact .inl rfl
structure Ek (P:Program) (t e sz bytes:Nat):Prop where
 under:P.underlying t=some (.slice e)
 info:∃ i z,P.info? e=some i∧i.zero=some z∧i.size=sz∧i.bytes=bytes∧z.cells.size=sz
def GH (P:Program) (t e sz bytes:Nat):Bool :=
 match P.underlying t with
 | some (.slice e')=>Nat.beq e' e&&match P.info? e with
  | some i=>match i.zero with
   | some z=>Nat.beq i.size sz&&Nat.beq i.bytes bytes&&Nat.beq z.cells.size sz
   | none=>false
  | none=>false
 | _=>false
theorem UQ {P:Program} {t e sz bytes:Nat} (h:GH P t e sz bytes=true):Ek P t e sz bytes:=by
 unfold GH at h
 split at h
 ·rename_i e' ht
  simp only[aX] at h
  obtain⟨h0,h⟩:=h
  have:=bH h0
  subst this
  split at h
  ·rename_i i hi
   split at h
   ·rename_i z hz
    simp only[aX] at h
    exact⟨ht,i,z,hi,hz,bH h.1.1,bH h.1.2,bH h.2⟩
   ·cases h
  ·cases h
 ·cases h
def Tm (rows:List (Array Value)):Prop:=∀ r∈rows,∀ u∈r.toList,u.oneCell'=true
theorem Em {α:Type} {c:α→Array Value} (h:∀ x,(c x).toList.all Value.oneCell'=true) (l:List α):Tm (l.map c):=by
 intro r hr u hu
 obtain⟨x,_,rfl⟩:=bD.1 hr
 exact bF.1 (h x) u hu
theorem Nq (x:Int):(ic x).toList.all Value.oneCell'=true:=rfl
theorem Rd.flat {w:World} {sz:Nat} {b:Addr} {news:List (Array Value)} (hsz:0<sz) (hr:Rd w sz (some b) news):∀ (j:Nat) (u:Value),(flat news)[j]?=some u→w.cell? (b.add j)=some u:=by
 have gq:∀ r∈news,r.size=sz:=fun r hm=>by
  obtain⟨k,hk⟩:=cW hm
  exact(hr.row k r hk).1
 intro j u hj
 have mu:=JA news gq
 have hjl:j<news.length*sz:=by rw[← mu];exact(aK.1 hj).1
 have hq:j/sz<news.length:=Nat.div_lt_of_lt_mul (by rw[eI];exact hjl)
 have rj:news[j/sz]?=some news[j/sz]:=aM hq
 obtain⟨hrs,ad,h3,_,h5⟩:=hr.row _ _ rj
 simp only[aF] at h3
 subst h3
 have da:=fE j hsz
 have hel:(news[j/sz]'hq)[j%sz]?=some ((news[j/sz]'hq)[j%sz]'(by rw[hrs];exact da)):=cI _
 have hv:=WL news gq (j/sz) _ rj (j%sz) _ hel
 have hj2:j/sz*sz+j%sz=j:=by rw[eI];exact gZ j sz
 have hfe:(news.map Array.toList).flatten=Eng.flat news:=rfl
 rw[hj2,hfe,hj] at hv
 have:=h5 (j%sz) u (by rw[hel];exact hv.symm)
 rwa [hj2] at this
theorem RB {P:Program} {w:World} {t e sz bytes cap cap2 m:Nat} {A B:Option Addr} {rows news:List (Array Value)} (ty:TypeId) (hT:GH P t e sz bytes=true) (hsz:Nat.blt 0 sz=true) (hb:Nat.blt 0 bytes=true)
  (ue:Uj A cap e sz rows w) (hr:Rd w sz B news) (hm:m=news.length) (h1:Tm news) (hlen:(rows.length+news.length)*bytes≤140737488355328) :
  ∃ A' db w',(Builtin.append_ #[t,t] ty #[.slice A rows.length cap,.slice B m cap2]).run P w=.ok (.slice A' (rows.length+news.length) db) w'∧Uj A' db e sz (rows++news) w' ∧
   Chg (Own A cap e sz rows).foot w w'∧∀ b,(Own A' db e sz (rows++news)).foot b→(Own A cap e sz rows).foot b∨w.heap.size≤b:=by
 obtain⟨hu,i,z,hi,hz,hs1,hs2,hs3⟩:=UQ hT
 subst hm
 have hb0:0<bytes:=aN hb
 have ot:0<sz:=aN hsz
 have hlt:rows.length+news.length≤140737488355328:=bL (Nat.le_mul_of_pos_right _ hb0) hlen
 rcases bX news.length with h0|h0
 ·have hn:news=[]:=fS h0
  subst hn
  refine⟨A,cap,w,?_,by simpa using ue,Chg.refl _ _,fun b hb=>.inl (by simpa using hb)⟩
  have hle:=ue.le
  cases A <;> cases B <;> simp[Builtin.append_,run_underlying hu,sizeOf,typeInfo,hi,Builtin.lenOf,Builtin.firstCells,loadCells,loadCellsFrom,hle,storeCells]
 ·have hB:∃ b,B=some b:=by
   have h2:news[0]?=some news[0]:=aM h0
   obtain⟨_,ad,h3,_⟩:=hr.row 0 _ h2
   exact⟨ad,h3⟩
  obtain⟨b,rfl⟩:=hB
  have gq:∀ r∈news,r.size=sz:=fun r hm=>by
   obtain⟨k,hk⟩:=cW hm
   exact(hr.row k r hk).1
  have ft:=hr.flat ot
  have hfl:(flat news).length=news.length*i.size:=by rw[JA news gq,hs1]
  have lf:∀ u∈flat news,u.oneCell'=true:=fun u hu=>by
   obtain⟨l,hl,hul⟩:=List.mem_flatten.1 hu
   obtain⟨r,hr,rfl⟩:=bD.1 hl
   exact h1 r hr u hul
  have ff:∀ r∈rows++news,r.size=sz:=fun r hr=>by
   rcases bO.1 hr with hr|hr
   ·exact ue.each r hr
   ·exact gq r hr
  have hsh:(rows++news).length<4611686018427387904:=by rw[aW];omega
  have hlf:(flat rows++flat news).length=(rows.length+news.length)*sz:=by rw[← Uo,JA _ ff,aW]
  have hnc:=growslice_fits (old:=cap) (need:=rows.length+news.length) (bytes:=i.bytes)
  have h63:((rows.length+news.length:Nat):Int)≤9223372036854775807:=by omega
  have grown:∀ (old:Nat) (w1:World),w1=w.drew.alloc (.cells ((flat rows).toArray++(flat news).toArray++Builtin.zeroCells z.cells (grownCap w (rows.length+news.length) old e-(rows.length+news.length))) e) →
    Uj (some ⟨w.heap.size,0,none⟩) (grownCap w (rows.length+news.length) old e) e sz (rows++news) w1∧Chg (Own A cap e sz rows).foot w w1 ∧
    ∀ b,(Own (some ⟨w.heap.size,0,none⟩) (grownCap w (rows.length+news.length) old e) e sz (rows++news)).foot b→(Own A cap e sz rows).foot b∨w.heap.size≤b:=by
   intro old w1 hw1
   subst hw1
   have hge:=grownCap_ge w (rows.length+news.length) old e
   have hcm:=grownCap_le_maxLen w (rows.length+news.length) old e (by simp only[maxLen];omega)
   refine⟨.inr ⟨_,_,rfl,by omega,heap_alloc_new w.drew _,by rw[aW];exact hge,hcm,?_,?_,ff,hsh⟩,Chg.of_below ?_,fun b hb=>?_⟩
   ·simp only[Array.size_append,eV,size_zeroCells,hs3]
    rw[← aW,hlf,← dF]
    congr 1
    omega
   ·simp only[Array.toList_append,bT]
    rw[← bT,aW,← hlf,Uo]
    exact List.take_left
   ·exact((Below.refl _ w).drew).alloc (aU _) _
   ·obtain⟨_,a,h2,rfl⟩:=hb
    simp only[aF] at h2
    subst h2
    exact .inr (aU _)
  rcases ue with ⟨rfl,rfl⟩|⟨g,cur,h⟩
  ·simp only[dQ,bY] at *
   cases A with
   | none =>
    have hr:=run_append_nil (P:=P) w t ty e i z hu hi hz b news.length cap2 (flat news) hfl ft h0 h63 (by rw[hs2];omega)
    obtain⟨g1,g2,g3⟩:=grown 0 _ rfl
    exact⟨_,_,_,by rw[hr];simp[flat],g1,g2,g3⟩
   | some a =>
    have hr:=run_append_grow (P:=P) w t ty e i z hu hi hz a 0 0 [] (by simp) (by simp) b news.length cap2 (flat news) hfl ft (by omega) (by simpa using h63) (by simpa using hnc h0 (by rw[hs2];exact hlen))
    simp only[bY] at hr
    obtain⟨g1,g2,g3⟩:=grown 0 _ rfl
    exact⟨_,_,_,by rw[hr];simp[flat],g1,g2,g3⟩
  ·have hA:=h.at_
   subst hA
   by_cases hroom:rows.length+news.length≤cap
   ·have mx:rows.length*i.size+(flat news).length≤cur.size:=by rw[hfl,h.size,hs1,← dF];exact bS _ hroom
    have hr:=run_append_room (P:=P) w t ty e i hu hi g rows.length cap cur h.heap b news.length cap2 (flat news) hfl ft lf hroom mx
    refine⟨_,_,_,hr,.inr ⟨g,_,rfl,h.pos,setRow_heap w g cur _ e _ h.heap,by rw[aW];exact hroom,h.max,?_,?_,ff,hsh⟩,⟨rfl,rfl,rfl,by simp[World.setRow],fun k _ hk=>setRow_other w g k _ (fun e=>hk ⟨h.pos,_,rfl,e.symm⟩),aU _⟩,fun b hb=>.inl hb⟩
    ·have:=h.size
     simp only[eV,aW,aZ,aH,bC]
     omega
    ·rw[hs1,h.holds,aW,← hlf,Uo]
     exact List.take_left
   ·have hr:=run_append_grow (P:=P) w t ty e i z hu hi hz ⟨g,0,none⟩ rows.length cap (flat rows) (by rw[JA rows h.each,hs1]) (fun j u hu=>by rw[V3];exact h.cell hu) b news.length cap2 (flat news) hfl ft (by omega) h63
     (hnc (by omega) (by rw[hs2];exact hlen))
    obtain⟨g1,g2,g3⟩:=grown cap _ rfl
    exact⟨_,_,_,hr,g1,g2,g3⟩
theorem Bt {P:Program} {s:Sem Value} {w w':World} {v:Value} (h:s.run P w=.ok v w'):(sV s).run P w=.ok (.value v) w':=by
 have:(sV s)=(do let v ← s;pure (Next.value v)):=rfl
 rw[this]
 simp only[Sem.run_bind,h,Result.andThen_ok,Sem.run_pure]
theorem QE {α:Type} {c:α→Array Value} {P:Program} {w0:Ctx} {M:Mem} {t e sz bytes cap cap2 m:Nat} {A B:Option Addr} {l:List α} (ty:TypeId) (j:Nat) (news:List α) (hT:GH P t e sz bytes=true) (hsz:Nat.blt 0 sz=true) (hb:Nat.blt 0 bytes=true)
  (h1:∀ x,(c x).toList.all Value.oneCell'=true) (hj:M[j]?=some (.inr (Own A cap e sz (l.map c)))) (hr:∀ w,Sat w0 M w→Rd w sz B (news.map c)) (hm:m=news.length) (hlen:(l.length+news.length)*bytes≤140737488355328) (w:World) (hM:Sat w0 M w) :
  ∃ (g:Option Addr×Nat) (w':World),(sV (Builtin.append_ #[t,t] ty #[.slice A l.length cap,.slice B m cap2])).run P w=.ok (.value (.slice g.1 (l++news).length g.2)) w' ∧
   Sat w0 (M.set j (.inr (Own g.1 g.2 e sz ((l++news).map c)))) w':=by
 obtain⟨A',db,w',h2,h3,h4,h5⟩:=RB (cap2:=cap2) (m:=m) ty hT hsz hb (hM.own_at j hj) (hr w hM) (by rw[hm,aD]) (Em h1 news) (by rw[aD,aD];exact hlen)
 rw[← eN] at h3 h5
 rw[aD,aD] at h2
 exact⟨(A',db),w',by rw[aW];exact Bt h2,hM.step hj h4 h3 h5⟩
theorem F9 (z:Array Value):∀ n,(madeCells z (n*z.size)).toList=flat (List.replicate n z):=by
 intro n
 have jl:∀ r∈List.replicate n z,r.size=z.size:=fun r hr=>by rw[fD hr]
 apply fJ
 intro j
 by_cases hj:j<n*z.size
 ·have h0:0<z.size:=by rcases bX z.size with h|h;(rw[h] at hj;omega);exact h
  have hq:j/z.size<n:=Nat.div_lt_of_lt_mul (by rw[eI];exact hj)
  have da:=fE j h0
  have hv:=WL (List.replicate n z) jl (j/z.size) z (by simp[hq]) (j%z.size) z[j%z.size] (cI da)
  have hj2:j/z.size*z.size+j%z.size=j:=by rw[eI];exact gZ j z.size
  rw[hj2] at hv
  show _=(List.map Array.toList (List.replicate n z)).flatten[j]?
  rw[hv]
  simp[madeCells,hj,da]
 ·rw[cR (by simp[madeCells];omega),cR (by rw[JA _ jl,bA];omega)]
theorem KX {α:Type} {c:α→Array Value} {P:Program} {w0:Ctx} {M:Mem} {t e sz bytes:Nat} (x:α) (kl kc:IntKind) (n:Nat) (hT:GH P t e sz bytes=true) (hz:((P.info? e).bind (·.zero)).map Value.cells=some (c x))
  (hlen:bytes*n≤281474976710656) (h62:n<4611686018427387904) (w:World) (hM:Sat w0 M w) :
  ∃ (g:Option Addr×Nat) (w':World),(sV (Instr.makeSlice t (.int kl (n:Int)) (.int kc (n:Int)))).run P w=.ok (.value (.slice g.1 (List.replicate n x).length g.2)) w'∧Sat w0 (.inr (Own g.1 g.2 e sz ((List.replicate n x).map c))::M) w':=by
 obtain⟨hu,i,zv,hi,hzv,hs1,hs2,hs3⟩:=UQ hT
 have hz':zv.cells=c x:=by simpa[hi,hzv] using hz
 obtain⟨w',hr,ue,hg⟩:=run_make_full (P:=P) w 0 t e i zv sz hu hi hzv hs1 kl kc n (by rw[hs2];exact hlen) (by simp only[maxLen];omega) (aP _)
 have hd:w.drawn≤w'.drawn:=by
  have ou:(n:Int)≤9223372036854775807:=by omega
  have hb':(i.bytes:Int)*(n:Int)≤281474976710656:=by
   have h:((i.bytes*n:Nat):Int)≤281474976710656:=by rw[hs2];omega
   rwa [hH] at h
  have h2:=run_make (P:=P) w t e i zv hu hi hzv kl kc n n (by omega) (cO _) hb' ou
  simp only[aO] at h2
  rw[h2] at hr
  cases hr
  exact aU _
 have jl:∀ r∈List.replicate n (c x),r.size=sz:=fun r hr=>by rw[fD hr,← hz',hs3]
 refine⟨(some ⟨w.heap.size,0,none⟩,n),w',by rw[bA];exact Bt hr,?_⟩
 have hb:Below w.heap.size w w':=⟨hg.os,hg.tape,hg.output,hg.size,fun k hk=>hg.block k hk (by simp),hd⟩
 rw[fF]
 refine hM.push hb _ ?_ (fun b hb=>?_)
 ·rcases ue.2 with ⟨h0,_⟩|⟨g,cap,cur,h1,_,h3,h4,h5,h6,h7⟩
  ·cases h0
  ·simp only[Value.slice.injEq,aF,Addr.mk.injEq,and_true,true_and] at h1
   obtain⟨rfl,rfl⟩:=h1
   rcases bX n with h0|h0
   ·subst h0;exact .inl ⟨rfl,rfl⟩
   ·refine .inr ⟨w.heap.size,cur,rfl,h0,h3,by simp,h5,h6,?_,jl,by simpa using h62⟩
    have:=F9 zv.cells n
    rw[hs3,hz'] at this
    rw[bA,h7,← hz']
    rw[hz']
    exact this
 ·obtain⟨_,a,h1,rfl⟩:=hb
  simp only[aF] at h1
  subst h1
  exact aU _
def upd (r:Array Value) (off:Nat) (cs:List Value):Array Value:=(r.toList.take off++cs++r.toList.drop (off+cs.length)).toArray
theorem P6 {r:Array Value} {off:Nat} {cs:List Value} (h:off+cs.length≤r.size):(upd r off cs).size=r.size:=by
 simp[upd];omega
theorem Lc {sz:Nat}:∀ (rows:List (Array Value)) (i:Nat) (r:Array Value) (off:Nat) (cs:List Value),(∀ r∈rows,r.size=sz)→rows[i]?=some r→off+cs.length≤sz →
  (flat rows).take (i*sz+off)++cs++(flat rows).drop (i*sz+off+cs.length)=flat (rows.set i (upd r off cs))
 | [],i,r,off,cs,_,hi,_=>by simp at hi
 | r0::rows,0,r,off,cs,jl,hi,hle=>by
  simp only[cF,aF] at hi
  subst hi
  have hr:r0.toList.length=sz:=by rw[bC];exact jl r0 (by simp)
  rw[KG,List.set_cons_zero,KG,eX,bY,fT (by omega),List.drop_append_of_le_length (by omega)]
  simp[upd,List.append_assoc]
 | r0::rows,i+1,r,off,cs,jl,hi,hle=>by
  simp only[bG] at hi
  have hr:r0.toList.length=sz:=by rw[bC];exact jl r0 (by simp)
  have ih:=Lc rows i r off cs (fun r hr=>jl r (by simp[hr])) hi hle
  rw[KG,List.set_cons_succ,KG,← ih]
  have e1:(i+1)*sz+off=r0.toList.length+(i*sz+off):=by rw[hr,dF];omega
  rw[e1,gT,List.take_length_add_append,List.drop_length_add_append]
  simp[List.append_assoc]
def sU (s:Sem Unit):Sem Next:=s.bind fun _=>.pure .skip
theorem I6 {P:Program} {s:Sem Unit} {w w':World} (h:s.run P w=.ok () w'):(sU s).run P w=.ok .skip w':=by
 have:(sU s)=(do s;pure Next.skip):=rfl
 rw[this]
 simp only[Sem.run_bind,h,Result.andThen_ok,Sem.run_pure]
theorem HM (L cs:List Value) (p N:Nat) (h:p+cs.length≤N) (hN:N≤L.length):(L.take p++cs++L.drop (p+cs.length)).take N=(L.take N).take p++cs++(L.take N).drop (p+cs.length):=by
 have h1:(L.take p++cs).length=p+cs.length:=by rw[aW,aZ];omega
 rw[gV,cA (by omega),h1,hZ,dZ (by omega),hY]
theorem Fb {P:Program} {w:World} {T n e sz cap off i:Nat} {A:Option Addr} {rows:List (Array Value)} {r:Array Value} (v:Value) (ue:Uj A cap e sz rows w) (hi:rows[i]?=some r)
  (hT:((P.info? T).map (·.size))=some n) (hv:v.cells.size=n) (hle:Nat.ble (off+n) sz=true) (h1:v.cells.toList.all Value.oneCell'=true) :
  ∃ w',(sU (Instr.storeAt T (.pointer (some (((A.getD Yz).add (i*sz)).add off))) v)).run P w=.ok .skip w'∧Uj A cap e sz (rows.set i (upd r off v.cells.toList)) w'∧Chg (Own A cap e sz rows).foot w w':=by
 have oq:=aN hle
 have hil:i<rows.length:=(aK.1 hi).1
 have hrs:r.size=sz:=ue.each r (aR hi)
 have hcl:v.cells.toList.length=n:=by rw[bC];exact hv
 rcases ue with ⟨_,rfl⟩|⟨g,cur,ho⟩
 ·simp at hi
 ·have h2:=ho.heap
  have h3:=ho.le
  have h4:=ho.max
  have h5:=ho.size
  have h6:=ho.holds
  have hA:=ho.at_
  subst hA
  have dq:(((some (⟨g,0,none⟩:Addr)).getD Yz).add (i*sz)).add off=⟨g,i*sz+off,none⟩:=by rw[add_add'];exact V3 _ _
  have mx:i*sz+off+n≤rows.length*sz:=by
   have:(i+1)*sz≤rows.length*sz:=bS _ hil
   rw[dF] at this;omega
  have hcur:rows.length*sz≤cur.size:=by rw[h5];exact bS _ h3
  have hst:=run_storeCells_at P g (i*sz+off) e v.cells.toList 0 cur w h2 (by omega) (fun u hu=>bF.1 h1 u hu)
  rw[dq]
  refine⟨w.setRow g (List.take (i*sz+off+0) cur.toList++v.cells.toList++List.drop (i*sz+off+0+v.cells.toList.length) cur.toList).toArray,I6 ?_,?_,?_⟩
  ·cases wu:P.info? T with
   | none=>rw[wu] at hT;cases hT
   | some inf =>
    rw[wu] at hT
    simp only[cU,aF] at hT
    simp[Instr.storeAt,Instr.sureAddr,storeVar,sizeOf,typeInfo,wu,hT,hv,hst]
  ·have ov:∀ r'∈rows.set i (upd r off v.cells.toList),r'.size=sz:=fun r' hr'=>by
    rcases List.mem_or_eq_of_mem_set hr' with h|rfl
    ·exact ho.each r' h
    ·rw[P6 (by omega)];exact hrs
   refine .inr ⟨g,_,rfl,ho.pos,setRow_heap w g cur _ e _ h2,by simpa using h3,h4,?_,?_,ov,by simpa using ho.short⟩
   ·simp only[eV,aW,aZ,aH,bC,hv]
    omega
   ·rw[aL]
    have hfs:=Lc rows i r off v.cells.toList ho.each hi (by omega)
    rw[← hfs,← h6]
    simp only[bZ]
    exact HM _ _ _ _ (by omega) (by rw[bC];omega)
  ·exact⟨rfl,rfl,rfl,by simp[World.setRow],fun k _ hk=>setRow_other w g k _ (fun e=>hk ⟨ho.pos,_,rfl,e.symm⟩),aU _⟩
theorem Y2 {P:Program} {w0:Ctx} {M:Mem} {T n e sz cap off i:Nat} {A:Option Addr} {rows:List (Array Value)} {r:Array Value} (v:Value) (j:Nat) (rows':List (Array Value)) (hj:M[j]?=some (.inr (Own A cap e sz rows))) (hi:rows[i]?=some r)
  (hT:((P.info? T).map (·.size))=some n) (hv:v.cells.size=n) (hle:Nat.ble (off+n) sz=true) (h1:v.cells.toList.all Value.oneCell'=true) (my:rows.set i (upd r off v.cells.toList)=rows') (w:World) (hM:Sat w0 M w) :
  ∃ (_:Unit) (w':World),(sU (Instr.storeAt T (.pointer (some (((A.getD Yz).add (i*sz)).add off))) v)).run P w=.ok .skip w'∧Sat w0 (M.set j (.inr (Own A cap e sz rows'))) w':=by
 obtain⟨w',h2,h3,h4⟩:=Fb (P:=P) v (hM.own_at j hj) hi hT hv hle h1
 subst my
 exact⟨(),w',h2,hM.step hj h4 h3 (fun b hb=>.inl hb)⟩
theorem YJ {α:Type} {c:α→Array Value} {l:List α} {i:Nat} {x:α} {r:Array Value} (h:r=c x):(l.map c).set i r=(l.set i x).map c:=by rw[List.map_set,h]
theorem Sat.takerow {w0:Ctx} {w:World} {M:Mem} {A:Option Addr} {cap:Nat} {e:TypeId} {sz:Nat} {rows:List (Array Value)} (n:Nat) (h:Sat w0 M w) (j:Nat) (hj:M[j]?=some (.inr (Own A cap e sz rows))) (hn:n≤rows.length) :
  Sat w0 (M.set j (.inr (Own A cap e sz (rows.take n)))) w:=by
 have ho:=h.own_at j hj
 refine h.step hj (Chg.refl _ _) ?_ (fun b hb=>.inl hb)
 rcases ho with ⟨rfl,rfl⟩|⟨g,cur,ho⟩
 ·rw[List.take_nil];exact Uj.nil A e sz w
 ·have hl:(rows.take n).length=n:=by rw[aZ];omega
  have:=ho.short
  have:=ho.le
  refine .inr ⟨g,cur,ho.at_,ho.pos,ho.heap,by omega,ho.max,ho.size,?_,fun r hr=>ho.each r (List.mem_of_mem_take hr),by omega⟩
  rw[hl,← Hy rows n ho.each,← ho.holds,hZ]
  congr 1
  exact(dZ (bS _ hn)).symm
structure Sl (α:Type) where
 A:Option Addr
 cap:Nat
 l:List α
def Sl.v {α:Type} (s:Sl α):Value:=.slice s.A s.l.length s.cap
def Sl.c {α:Type} (s:Sl α):Array Value:=#[.slice s.A s.l.length s.cap]
def Sl.zero {α:Type}:Sl α:=⟨none,0,[]⟩
theorem Sl.one {α:Type} (s:Sl α):s.c.toList.all Value.oneCell'=true:=rfl
structure Sl.rd {α:Type} (w:World) (sz:Nat) (c:α→Array Value) (s:Sl α):Prop where
 rd:Rd w sz s.A (s.l.map c)
 le:s.l.length≤s.cap
theorem Sl.rd.below {α:Type} {w w':World} {sz:Nat} {c:α→Array Value} {s:Sl α} (h:s.rd w sz c) (hb:Below w.heap.size w w'):s.rd w' sz c:=⟨h.rd.below hb,h.le⟩
theorem Sl.rd.sat {α:Type} {w w':World} {M:Mem} {sz:Nat} {c:α→Array Value} {s:Sl α} (h:s.rd w sz c) (hM:Sat (cx w) M w'):s.rd w' sz c:=h.below hM.below
theorem Sl.rd_zero {α:Type} (w:World) (sz:Nat) (c:α→Array Value):(Sl.zero:Sl α).rd w sz c:=⟨Rd.nil w sz,by simp[Sl.zero]⟩
def Bag {α:Type} (e:TypeId) (sz:Nat) (c:α→Array Value) (l:List (Sl α)):Res where
 foot b:=∃ s∈l,(Own s.A s.cap e sz (s.l.map c)).foot b
 holds w:=∀ s∈l,Uj s.A s.cap e sz (s.l.map c) w
 lt w h b hb:=by
  obtain⟨s,hs,hf⟩:=hb
  exact(Own s.A s.cap e sz (s.l.map c)).lt w (h s hs) b hf
 kept w w' h hk:=fun s hs=>(Own s.A s.cap e sz (s.l.map c)).kept w w' (h s hs) fun b hb=>hk b ⟨s,hs,hb⟩
theorem Uj.sl {α:Type} {w:World} {e sz:Nat} {c:α→Array Value} {s:Sl α} (h:Uj s.A s.cap e sz (s.l.map c) w):s.rd w sz c:=⟨h.rd,by have:=h.le;rwa [aD] at this⟩
theorem Sat.bag_at {α:Type} {w0:Ctx} {w:World} {M:Mem} {e sz:Nat} {c:α→Array Value} {l:List (Sl α)} (h:Sat w0 M w) (j:Nat) (hj:M[j]?=some (.inr (Bag e sz c l))):∀ s∈l,s.rd w sz c:=fun s hs=>(h.res hj s hs).sl
theorem all_cons {α:Type} {p:α→Prop} {a:α} {l:List α} (h:p a) (hl:∀ s∈l,p s):∀ s∈a::l,p s:=fun s hs=>by
 rcases bB.1 hs with rfl|hs
 ·exact h
 ·exact hl s hs
theorem Sat.bag_nil {α:Type} {w0:Ctx} {w:World} {M:Mem} (e sz:Nat) (c:α→Array Value) (h:Sat w0 M w):Sat w0 (.inr (Bag e sz c ([]:List (Sl α)))::M) w :=
 h.push (Below.refl _ _) _ (fun s hs=>by cases hs) (fun b hb=>by obtain⟨s,hs,_⟩:=hb;cases hs)
theorem Sat.recast {w0:Ctx} {w:World} {Mp Mr Mn:Mem} (h:Sat w0 (Mp++Mr) w) (hh:∀ e∈Mn,Uz e w) (hf:∀ e∈Mn,∀ b,VH e b→XR Mp b) (ha:Mn.Pairwise UM):Sat w0 (Mn++Mr) w :=
 h.call ⟨Chg.refl _ _,fun e he=>⟨hh e he,fun b hb=>.inl (hf e he b hb)⟩,ha⟩
theorem Sat.bag_add {α:Type} {w0:Ctx} {w:World} {M:Mem} {e sz:Nat} {c:α→Array Value} {l:List (Sl α)} {A:Option Addr} {cap:Nat} {x:List α} (h:Sat w0 (.inr (Own A cap e sz (x.map c))::.inr (Bag e sz c l)::M) w) :
  Sat w0 (.inr (Bag e sz c (l ++ [⟨A,cap,x⟩]))::M) w:=by
 refine Sat.recast (Mp:=[.inr (Own A cap e sz (x.map c)),.inr (Bag e sz c l)]) (Mn:=[.inr (Bag e sz c (l ++ [⟨A,cap,x⟩]))]) h ?_ ?_ (by simp)
 ·intro e' he
  rw[bE] at he
  subst he
  intro s hs
  rcases bO.1 hs with hs|hs
  ·exact h.res (j:=1) rfl s hs
  ·rw[bE] at hs
   subst hs
   exact h.own_at 0 rfl
 ·intro e' he b hb
  rw[bE] at he
  subst he
  obtain⟨s,hs,hf⟩:=hb
  rcases bO.1 hs with hs|hs
  ·exact⟨_,aG _ (aJ ..),s,hs,hf⟩
  ·rw[bE] at hs
   subst hs
   exact⟨_,aJ ..,hf⟩
end Go.Eng
end
section
namespace Go.Eng
def upS (S:Nat→Bool) (j:Nat):Nat→Bool:=fun k=>bif Nat.beq k j then true else S k
theorem WM (S:Nat→Bool) (j:Nat):upS S j j=true:=by simp[upS]
theorem mS2 {S:Nat→Bool} {a0 a1:Nat} {x0 x1:Bool} (h0:S a0=x0) (h1:S a1=x1):List.map S [a0,a1]=[x0,x1]:=by subst h0 h1;rfl
theorem mS3 {S:Nat→Bool} {a0 a1 a2:Nat} {x0 x1 x2:Bool} (h0:S a0=x0) (h1:S a1=x1) (h2:S a2=x2):List.map S [a0,a1,a2]=[x0,x1,x2]:=by subst h0 h1 h2;rfl
theorem mS4 {S:Nat→Bool} {a0 a1 a2 a3:Nat} {x0 x1 x2 x3:Bool} (h0:S a0=x0) (h1:S a1=x1) (h2:S a2=x2) (h3:S a3=x3):List.map S [a0,a1,a2,a3]=[x0,x1,x2,x3]:=by subst h0 h1 h2 h3;rfl
theorem mS5 {S:Nat→Bool} {a0 a1 a2 a3 a4:Nat} {x0 x1 x2 x3 x4:Bool} (h0:S a0=x0) (h1:S a1=x1) (h2:S a2=x2) (h3:S a3=x3) (h4:S a4=x4):List.map S [a0,a1,a2,a3,a4]=[x0,x1,x2,x3,x4]:=by subst h0 h1 h2 h3 h4;rfl
theorem UR (S:Nat→Bool) {j k:Nat} (h:k≠j):upS S j k=S k:=by
 have:Nat.beq k j=false:=by
  cases hb:Nat.beq k j with
  | false=>rfl
  | true=>exact absurd (bH hb) h
 simp[upS,this]
def aft (o:Oper):List Nat:=(o.after.toList.filter (Region.binds .any)).map (·.on)
def I7 (o:Oper):List Nat:=o.op.operands.toList.filterMap fun x=>match x with|.tmp t=>some t|_=>none
def Iu (ops:List Oper) (o:Oper):List Nat:=match o.guard with
 | none=>[]
 | some (j,_)=>match (ops[j]?).bind (·.dst) with|some d=>[d]|none=>[]
def seen (ops:List Oper) (o:Oper):List Nat:=I7 o++Iu ops o
def P7 (t:Nat) (o:Oper):Bool:=match o.dst with|some d=>Nat.beq d t|none=>false
def VK (ops:List Oper) (t:Nat):List Nat:=(List.range ops.length).filter fun i=>match ops[i]? with|some o=>P7 t o|none=>false
def Q2 (ops:List Oper) (i:Nat):List Nat:=match ops[i]? with|some o=>aft o|none=>[]
def P8 (ops:List Oper) (base:List Nat) (j:Nat) (o:Oper) (t:Nat):Bool :=
 bif base.contains t then (VK ops t).all (fun i=>!(Nat.beq i j)&&(Q2 ops i).contains j)
 else match VK ops t with
  | [i]=>(aft o).contains i
  | _=>false
def BH (ops:List Oper) (base:List Nat):Bool :=
 (List.range ops.length).all fun j=>match ops[j]? with
  | some o=>!Vk o.op&&(seen ops o).all (P8 ops base j o)&&(match o.dst with|some d=>(match VK ops d with | [_]=>true|_=>false)|none=>true)
  | none=>false
theorem Jn {ops:List Oper} {t i:Nat}:i∈VK ops t↔∃ o,ops[i]?=some o∧o.dst=some t:=by
 unfold VK
 rw[fZ,dV]
 constructor
 ·rintro⟨hi,h⟩
  rw[aM hi] at h
  refine⟨ops[i],aM hi,?_⟩
  simp only[P7] at h
  split at h
  ·rename_i d hd;rw[hd,bH h]
  ·cases h
 ·rintro⟨o,ho,hd⟩
  refine⟨(aK.1 ho).1,?_⟩
  rw[ho]
  simp[P7,hd]
structure Kn (n:Nat) (ops:List Oper) (base:ZS) (vals:List Value) (S:Nat→Bool) (a:Act):Prop where
 size:a.tmps.size=n
 defers:a.defers=[]
 old:∀ t v,look t base=some v→(∀ i∈VK ops t,S i=false)→a.tmps[t]?=some v
 new:∀ i o d,ops[i]?=some o→o.dst=some d→S i=true→a.tmps[d]?=vals[i]?
def Bg:List Oper→List Value→ZS
 | o::os,v::vs=>match o.dst with|some d=>(d,v)::Bg os vs|none=>Bg os vs
 | _,_=>[]
def US (ops:List Oper) (base:ZS) (vals:List Value):ZS:=base++Bg ops vals
theorem Gx (t:Nat):∀ (F G:ZS),look t (F++G)=match look t F with|some v=>some v|none=>look t G
 | [],G=>rfl
 | (k,v)::F,G=>by
  by_cases e:k=t
  ·subst e;rw[dH,YD,YD]
  ·rw[dH,YR v _ e,YR v _ e];exact Gx t F G
theorem Hz:∀ (os:List Oper) (vs:List Value) (t i:Nat),vs.length=os.length→(∃ o,os[i]?=some o∧o.dst=some t)→(∀ k o,os[k]?=some o→o.dst=some t→k=i)→look t (Bg os vs)=vs[i]?
 | [],_,t,i,_,⟨o,ho,_⟩,_=>by simp at ho
 | o0::os,[],t,i,hl,_,_=>by simp at hl
 | o0::os,v::vs,t,0,hl,⟨o,ho,hd⟩,hu=>by
  simp only[cF,aF] at ho
  subst ho
  simp only[Bg,hd,YD,cF]
 | o0::os,v::vs,t,i+1,hl,⟨o,ho,hd⟩,hu=>by
  simp only[bG] at ho ⊢
  have ih:=Hz os vs t i (by simpa using hl) ⟨o,ho,hd⟩ fun k o hk hd=>by
   have:=hu (k+1) o (by simpa using hk) hd;omega
  simp only[Bg]
  cases h0:o0.dst with
  | none=>exact ih
  | some d =>
   simp only
   by_cases e:d=t
   ·subst e
    have:=hu 0 o0 rfl h0;omega
   ·rw[YR v _ e];exact ih
section
variable {P:Program} {n:Nat} {ops:Array Oper} {base:ZS} {vals:List Value} {S:Nat→Bool} {a:Act}
def need (F:ZS) (ts:List Nat):ZS:=ts.filterMap fun t=>(look t F).map fun v=>(t,v)
theorem GI (F:ZS):∀ (ts:List Nat) (t:Nat) (v:Value),look t (need F ts)=some v→look t F=some v∧t∈ts
 | [],t,v,h=>by cases h
 | s::ts,t,v,h=>by
  unfold need at h
  rw[gB] at h
  cases hs:look s F with
  | none =>
   rw[hs] at h
   obtain⟨h1,h2⟩:=GI F ts t v h
   exact⟨h1,aG _ h2⟩
  | some u =>
   rw[hs] at h
   simp only[cU] at h
   by_cases e:s=t
   ·subst e
    rw[YD] at h
    exact⟨hs.trans h,aJ ..⟩
   ·rw[YR _ _ e] at h
    obtain⟨h1,h2⟩:=GI F ts t v h
    exact⟨h1,aG _ h2⟩
theorem KH (F:ZS):∀ (ts:List Nat) (t:Nat),t∈ts→look t (need F ts)=look t F
 | [],t,h=>by cases h
 | s::ts,t,h=>by
  unfold need
  rw[gB]
  by_cases e:s=t
  ·subst e
   cases hs:look s F with
   | none =>
    simp only[Option.map_none]
    by_cases hm:s∈ts
    ·exact(KH F ts s hm).trans hs
    ·cases hc:look s (List.filterMap (fun t=>(look t F).map fun v=>(t,v)) ts) with
     | none=>rfl
     | some v=>exact absurd (GI F ts s v hc).2 hm
   | some u=>simp only[cU,YD]
  ·have hm:t∈ts:=by rcases bB.1 h with h|h;(exact absurd h.symm e);exact h
   cases hs:look s F with
   | none=>exact KH F ts t hm
   | some u=>simp only[cU];rw[YR _ _ e];exact KH F ts t hm
theorem Wm (t:Nat):∀ (F:ZS),(look t F).isSome=(F.map Prod.fst).contains t
 | []=>rfl
 | (k,v)::F=>by
  by_cases e:k=t
  ·subst e;rw[YD];simp
  ·rw[YR v _ e,Wm t F]
   simp[Ne.symm e]
theorem H2 (hB:BH ops.toList (base.map Prod.fst)=true) {j:Nat} {o:Oper} (ho:ops.toList[j]?=some o):Vk o.op=false∧∀ t∈seen ops.toList o,P8 ops.toList (base.map Prod.fst) j o t=true:=by
 have hb:=bF.1 hB j (dV.2 (aK.1 ho).1)
 rw[ho] at hb
 simp only[aX,eT] at hb
 exact⟨hb.1.1,bF.1 hb.1.2⟩
theorem FA (hl:vals.length=ops.toList.length) (hB:BH ops.toList (base.map Prod.fst)=true) {j:Nat} {o:Oper} (ho:ops.toList[j]?=some o) {t:Nat} (ht:t∈seen ops.toList o) :
  (∃ v,look t base=some v∧look t (US ops.toList base vals)=some v∧∀ i∈VK ops.toList t,i≠j∧j∈Q2 ops.toList i) ∨
  (look t base=none∧∃ i o' v,ops.toList[i]?=some o'∧o'.dst=some t∧i∈aft o∧vals[i]?=some v∧look t (US ops.toList base vals)=some v):=by
 have hs:=(H2 hB ho).2 t ht
 unfold P8 at hs
 rw[← Wm] at hs
 unfold US
 rw[Gx]
 cases hb:look t base with
 | some v =>
  rw[hb] at hs
  simp only[Option.isSome_some,cond_true] at hs
  refine .inl ⟨v,rfl,rfl,fun i hi=>?_⟩
  have:=bF.1 hs i hi
  simp only[aX,eT,List.contains_iff_mem] at this
  exact⟨fun e=>by subst e;simp at this,this.2⟩
 | none =>
  rw[hb] at hs
  simp only[Option.isSome_none,cond_false] at hs
  split at hs
  ·rename_i i hw
   obtain⟨o',h1,h2⟩:=Jn.1 (show i∈VK ops.toList t by rw[hw];exact aJ ..)
   have hil:=(aK.1 h1).1
   have hv:vals[i]?=some vals[i]:=aM (by omega)
   refine .inr ⟨rfl,i,o',_,h1,h2,by simpa using hs,hv,?_⟩
   simp only
   rw[Hz ops.toList vals t i hl ⟨o',h1,h2⟩ (fun k o2 hk hd=>?_)]
   ·exact hv
   ·have:=Jn.2 ⟨o2,hk,hd⟩
    rw[hw] at this
    simpa using this
  ·cases hs
theorem Kn.fr (h:Kn n ops.toList base vals S a) (hl:vals.length=ops.toList.length) (hB:BH ops.toList (base.map Prod.fst)=true) {j:Nat} {o:Oper} (ho:ops.toList[j]?=some o) (hj:S j=false)
  (hd:∀ e∈aft o,S e=true) (hc:∀ i o',ops.toList[i]?=some o'→S i=true→∀ e∈aft o',S e=true):Fr n (need (US ops.toList base vals) (seen ops.toList o)) a:=by
 refine⟨h.size,h.defers,fun t v ht=>?_⟩
 obtain⟨h1,h2⟩:=GI _ _ _ _ ht
 rcases FA hl hB ho h2 with ⟨u,hb,hu,hw⟩|⟨hb,i,o',u,hi,dr,hia,hv,hu⟩
 ·rw[h1] at hu
  simp only[aF] at hu
  subst hu
  refine h.old t v hb fun i hi=>?_
  obtain⟨o',h3,h4⟩:=Jn.1 hi
  cases hSi:S i with
  | false=>rfl
  | true =>
   have:=(hw i hi).2
   unfold Q2 at this
   rw[h3] at this
   have:=hc i o' h3 hSi j this
   rw[hj] at this;cases this
 ·rw[h1] at hu
  simp only[aF] at hu
  subst hu
  exact(h.new i o' t hi dr (hd i hia)).trans hv
theorem RD (hl:vals.length=ops.toList.length) (hB:BH ops.toList (base.map Prod.fst)=true) {j:Nat} {o:Oper} (ho:ops.toList[j]?=some o) :
  o.op.operands.toList.all (known (need (US ops.toList base vals) (seen ops.toList o)))=true:=by
 refine bF.2 fun x hx=>?_
 cases x with
 | tmp t =>
  have ht:t∈seen ops.toList o:=cG _ (List.mem_filterMap.2 ⟨_,hx,rfl⟩)
  simp only[known]
  rw[KH _ _ _ ht]
  rcases FA hl hB ho ht with ⟨u,_,hu,_⟩|⟨_,_,_,u,_,_,_,_,hu⟩ <;> rw[hu] <;> rfl
 | const v=>rfl
 | global g=>rfl
 | func f=>rfl
theorem P9 {o:Oper} {x:Operand} (hx:x∈o.op.operands.toList) (F:ZS):rho (need F (seen ops.toList o)) x=rho F x:=by
 cases x with
 | tmp t =>
  have ht:t∈seen ops.toList o:=cG _ (List.mem_filterMap.2 ⟨_,hx,rfl⟩)
  simp only[rho]
  rw[KH _ _ _ ht]
 | const v=>rfl
 | global g=>rfl
 | func f=>rfl
theorem BI (o:Oper) (F:ZS):U0 ops.toList (need F (seen ops.toList o)) o=U0 ops.toList F o:=by
 unfold U0
 cases hg:o.guard with
 | none=>rfl
 | some p =>
  obtain⟨j,want⟩:=p
  simp only
  cases hd:(ops.toList[j]?).bind (·.dst) with
  | none=>rfl
  | some d =>
   have ht:d∈seen ops.toList o:=eP _ (by unfold Iu;rw[hg];simp only[hd];exact aJ ..)
   simp only
   rw[KH _ _ _ ht]
end
def U1 (P:Program) (s:Sem Next) (w:World) (K:Value→World→Prop):Prop :=
 match s.run P w with
 | .ok (.value u) w'=>K u w'
 | .ok .skip w'=>K undef w'
 | .ok (.enter f args) w'=>Calls P f args w' (fun e w''=>∃ u,e=.returned u∧K u w'')
 | _=>False
def Nr {G:Type} (P:Program) (w0:Ctx) (ops:Array Oper) (base:ZS) (vals:G→List Value) (writes:List Nat) (mem:List Bool→G→Mem) (j:Nat) (o:Oper):Prop :=
 ∀ (S:Nat→Bool) (γ:G) (w:World),S j=false→(∀ e∈aft o,S e=true)→(∀ i o',ops.toList[i]?=some o'→S i=true→∀ e∈aft o',S e=true)→Sat w0 (mem (writes.map S) γ) w →
  match U0 ops.toList (US ops.toList base (vals γ)) o with
  | some true=>U1 P (execOp (rho (US ops.toList base (vals γ))) o) w (fun u w'=>∃ γ',(∀ i:Nat,S i=true→(vals γ')[i]?=(vals γ)[i]?)∧(vals γ')[j]?=some u∧Sat w0 (mem (writes.map (upS S j)) γ') w')
  | some false=>(vals γ)[j]?=some undef∧Sat w0 (mem (writes.map (upS S j)) γ) w
  | none=>False
def Steps {G:Type} (P:Program) (w0:Ctx) (ops:Array Oper) (base:ZS) (vals:G→List Value) (writes:List Nat) (mem:List Bool→G→Mem):List Oper→Nat→Prop
 | [],_=>True
 | o::r,j=>Nr P w0 ops base vals writes mem j o∧Steps P w0 ops base vals writes mem r (j+1)
section
variable {G:Type} {P:Program} {n:Nat} {w0:Ctx} {ops:Array Oper} {base:ZS} {vals:G→List Value} {writes:List Nat} {mem:List Bool→G→Mem}
theorem Steps.get:∀ {l:List Oper} {i:Nat},Steps P w0 ops base vals writes mem l i→∀ k o,l[k]?=some o→Nr P w0 ops base vals writes mem (i+k) o
 | [],_,_,k,o,hk=>by simp at hk
 | o0::l,i,h,0,o,hk=>by
  simp only[cF,aF] at hk
  subst hk
  exact h.1
 | o0::l,i,h,k+1,o,hk=>by
  simp only[bG] at hk
  have:=h.2.get k o hk
  rwa [show i+1+k=i+(k+1) by omega] at this
def left (S:Nat→Bool):Nat→Nat
 | 0=>0
 | N+1=>left S N+bif S N then 0 else 1
theorem Tn (S:Nat→Bool) (j:Nat) (hj:S j=false):∀ N,(j<N→left (upS S j) N+1=left S N)∧(N≤j→left (upS S j) N=left S N)
 | 0=>⟨fun h=>absurd h (cE _),fun _=>rfl⟩
 | N+1=>by
  obtain⟨h1,h2⟩:=Tn S j hj N
  constructor
  ·intro h
   simp only[left]
   by_cases e:j=N
   ·subst e
    rw[h2 (aU _),WM,hj];simp
   ·rw[UR S (show N≠j from fun h=>e h.symm)]
    have:=h1 (by omega)
    omega
  ·intro h
   simp only[left]
   rw[h2 (by omega),UR S (show N≠j by omega)]
theorem GK (S:Nat→Bool):∀ N,left S N=0→∀ k,k<N→S k=true
 | 0,_,k,hk=>absurd hk (cE _)
 | N+1,h,k,hk=>by
  simp only[left] at h
  by_cases e:k=N
  ·subst e
   cases hS:S k with
   | true=>rfl
   | false=>rw[hS] at h;simp at h
  ·exact GK S N (by omega) k (by omega)
theorem BJ (S:Nat→Bool):∀ N,left S N≠0→∃ k,k<N∧S k=false∧∀ i,i<k→S i=true
 | 0,h=>absurd rfl h
 | N+1,h=>by
  by_cases h0:left S N=0
  ·have:=GK S N h0
   refine⟨N,cY _,?_,this⟩
   simp only[left,h0] at h
   cases hS:S N with
   | false=>rfl
   | true=>rw[hS] at h;simp at h
  ·obtain⟨k,h1,h2,h3⟩:=BJ S N h0
   exact⟨k,by omega,h2,h3⟩
def Ns (ops:List Oper) (writes:List Nat):Bool :=
 ((List.range ops.length).all fun j=>(Q2 ops j).all fun e=>Nat.blt e j)&&writes.all (fun k=>Nat.blt k ops.length)
theorem PC {Q:Exit→Act→World→Prop} (hB:BH ops.toList (base.map Prod.fst)=true) (hO:Ns ops.toList writes=true) (hl:∀ γ,(vals γ).length=ops.toList.length)
  (hD:(ops.toList.all fun o=>match o.dst with|some d=>Nat.blt d n|none=>true)=true) (hs:∀ j o,ops.toList[j]?=some o→Nr P w0 ops base vals writes mem j o)
  (ow:∀ γ a w,(∀ S:Nat→Bool,(∀ k,k<ops.size→S k=true)→Kn n ops.toList base (vals γ) S a)→Sat w0 (mem (writes.map fun _=>true) γ) w→Q .normal a w) :
  ∀ (f:Nat) (listed:Array Bool) (S:Nat→Bool) (γ:G) (a:Act) (w:World),listed.size=ops.size→(∀ k,k<ops.size→∀ d,listed.getD k d=S k)→(∀ i o',ops.toList[i]?=some o'→S i=true→∀ e∈aft o',S e=true) →
   left S ops.size≤f→Kn n ops.toList base (vals γ) S a→Sat w0 (mem (writes.map S) γ) w→wpAny P .any ops Q f listed a w:=by
 simp only[Ns,aX] at hO
 have hlt:∀ j o,ops.toList[j]?=some o→∀ e∈aft o,e<j:=fun j o ho e he=>by
  have:=bF.1 hO.1 j (dV.2 (aK.1 ho).1)
  unfold Q2 at this
  rw[ho] at this
  exact aN (bF.1 this e he)
 have mz:∀ (S:Nat→Bool) (γ:G) (a:Act) (w:World),left S ops.size=0→Kn n ops.toList base (vals γ) S a→Sat w0 (mem (writes.map S) γ) w→Q .normal a w:=fun S γ a w h0 hK hM=>by
  have jl:=GK S _ h0
  have hwr:writes.map S=writes.map fun _=>true:=dR fun k hk=>jl k (by have:=aN (bF.1 hO.2 k hk);simp at this;omega)
  rw[hwr] at hM
  refine ow γ a w (fun S' hS'=>⟨hK.size,hK.defers,fun t v ht hw=>hK.old t v ht fun i hi=>?_,fun i o d ho hd _=>hK.new i o d ho hd ?_⟩) hM
  ·obtain⟨o,ho,_⟩:=Jn.1 hi
   have:=hw i hi
   rw[hS' i (by have:=(aK.1 ho).1;simpa using this)] at this
   cases this
  ·exact jl i (by have:=(aK.1 ho).1;simpa using this)
 have lh:∀ (listed:Array Bool) (S:Nat→Bool),listed.size=ops.size→(∀ k,k<ops.size→∀ d,listed.getD k d=S k)→Region.ready .any ops listed=[]→left S ops.size=0:=fun listed S hsz hg hr=>by
  rcases bX (left S ops.size) with h|h
  ·exact h
  ·obtain⟨k,h1,h2,h3⟩:=BJ S ops.size (by omega)
   have hk:ops[k]?=some ops[k]:=cI h1
   have hm:k∈Region.ready .any ops listed:=mem_ready.2 ⟨by rw[hg k h1,h2],_,hk,fun e he hb=>by
    have hea:e.on∈aft ops[k]:=bD.2 ⟨e,fZ.2 ⟨by simpa using he,hb⟩,rfl⟩
    have:=hlt k _ (by rw[bI];exact hk) e.on hea
    rw[hg _ (by omega)]
    exact h3 _ this⟩
   rw[hr] at hm;cases hm
 intro f
 induction f with
 | zero =>
  intro listed S γ a w hsz hg hc hf hK hM
  have h0:left S ops.size=0:=by omega
  refine⟨?_,mz S γ a w h0 hK hM⟩
  refine List.eq_nil_iff_forall_not_mem.2 fun i hi=>?_
  obtain⟨h1,o,ho,_⟩:=mem_ready.1 hi
  have hil:=(bW.1 ho).1
  rw[hg i hil,GK S _ h0 i hil] at h1
  cases h1
 | succ f ih =>
  intro listed S γ a w hsz hg hc hf hK hM
  refine⟨fun hr=>mz S γ a w (lh listed S hsz hg hr) hK hM,fun i hi=>?_⟩
  obtain⟨h1,o,ho,ca⟩:=mem_ready.1 hi
  have hil:=(bW.1 ho).1
  have hSi:S i=false:=by rw[← hg i hil true];exact h1
  have ho':ops.toList[i]?=some o:=by simpa using ho
  have hd:∀ e∈aft o,S e=true:=fun e he=>by
   obtain⟨e',he',rfl⟩:=bD.1 he
   obtain⟨he1,he2⟩:=fZ.1 he'
   have hlt':=hlt i o ho' _ he
   rw[← hg _ (by omega) false]
   exact ca e' (by simpa using he1) he2
  have hFr:=hK.fr (hl γ) hB ho' hSi hd hc
  have cd:execOp a.eval o=execOp (rho (US ops.toList base (vals γ))) o:=by
   rw[Ww hFr o (RD (hl γ) hB ho') (H2 hB ho').1]
   exact execOp_congr o (fun cs b e=>by have:=(H2 hB ho').1;rw[e] at this;cases this) fun x hx=>P9 (by simpa using hx) _
  have hst:=hs i o ho' S γ w hSi hd hc hM
  have next:∀ (u:Value) (γ':G) (w':World),(∀ k:Nat,S k=true→(vals γ')[k]?=(vals γ)[k]?)→(vals γ')[i]?=some u→Sat w0 (mem (writes.map (upS S i)) γ') w'→wpAny P .any ops Q f (listed.setIfInBounds i true) (a.put o.dst u) w':=by
   intro u γ' w' hag hu hM'
   refine ih _ (upS S i) γ' _ w' (by rw[Array.size_setIfInBounds];exact hsz) (fun k hk d=>?_) (fun k o2 hk hSk e he=>?_) ?_ ?_ hM'
   ·by_cases e:k=i
    ·subst e;rw[WM];simp[hsz,hk]
    ·rw[UR S e,getD_set_ne d (Ne.symm e)];exact hg k hk d
   ·by_cases e1:k=i
    ·subst e1
     rw[ho'] at hk
     simp only[aF] at hk
     subst hk
     have:=hlt k o ho' e he
     rw[UR S (by omega)]
     exact hd e he
    ·rw[UR S e1] at hSk
     have hSe:=hc k o2 hk hSk e he
     by_cases e2:e=i
     ·subst e2;rw[hSi] at hSe;cases hSe
     ·rw[UR S e2];exact hSe
   ·have:=(Tn S i hSi ops.size).1 hil
    omega
   ·have cg:∀ d,o.dst=some d→∀ k o2,ops.toList[k]?=some o2→o2.dst=some d→k=i:=fun d hd0 k o2 hk hd2=>by
     have hb:=bF.1 hB i (dV.2 (by simpa using hil))
     rw[ho'] at hb
     simp only[aX,hd0] at hb
     have hb2:=hb.2
     split at hb2
     ·rename_i q hq
      have m1:=Jn.2 ⟨o,ho',hd0⟩
      have m2:=Jn.2 ⟨o2,hk,hd2⟩
      rw[hq] at m1 m2
      simp only[bE] at m1 m2
      omega
     ·cases hb2
    refine⟨by rw[← hK.size];cases o.dst <;> simp[Act.put],by rw[← hK.defers];cases o.dst <;> simp[Act.put],fun t v ht hw=>?_,fun k o2 d hk hd2 hSk=>?_⟩
    ·have hne:o.dst≠some t:=fun e=>by
      have:=hw i (Jn.2 ⟨o,ho',e⟩)
      rw[WM] at this;cases this
     have hold:=hK.old t v ht fun k hk=>by
      have:=hw k hk
      by_cases e:k=i
      ·subst e;rw[WM] at this;cases this
      ·rwa [UR S e] at this
     cases dr:o.dst with
     | none=>simpa[Act.put] using hold
     | some d =>
      have:d≠t:=fun e=>hne (by rw[dr,e])
      simpa[Act.put,Array.getElem?_setIfInBounds_ne this] using hold
    ·by_cases e:k=i
     ·subst e
      rw[ho'] at hk
      simp only[aF] at hk
      subst hk
      rw[hd2,hu]
      have hdn:=bF.1 hD o (aR ho')
      rw[hd2] at hdn
      have hdn:d<n:=aN hdn
      simp[Act.put,hK.size,hdn]
     ·rw[UR S e] at hSk
      have ch:=(hK.new k o2 d hk hd2 hSk).trans (hag k hSk).symm
      cases dr:o.dst with
      | none=>simpa[Act.put] using ch
      | some d' =>
       have:d'≠d:=fun e2=>e (cg d' dr k o2 hk (by rw[hd2,e2]))
       simpa[Act.put,Array.getElem?_setIfInBounds_ne this] using ch
  unfold wpOp
  simp only[ho]
  split at hst
  ·rename_i hgv
   have hw:=QK hFr ((BI o _).trans hgv)
   rw[if_pos hw]
   refine .inl ?_
   unfold U1 at hst
   rw[← cd] at hst
   unfold Oper.wp
   generalize (execOp a.eval o).run P w=r at hst
   cases r with
   | ok x w' =>
    cases x <;> simp only at hst <;> simp only[Oper.upon]
    case value u=>obtain⟨γ',q1,q2,q3⟩:=hst;exact next _ γ' w' q1 q2 q3
    case skip=>obtain⟨γ',q1,q2,q3⟩:=hst;exact next _ γ' w' q1 q2 q3
    case enter g args=>exact hst.mono fun e w'' ⟨u,he,γ',q1,q2,q3⟩=>by subst he;exact next _ γ' w'' q1 q2 q3
   | halt x w'=>simp only at hst
  ·rename_i hgv
   have hw:=QK hFr ((BI o _).trans hgv)
   rw[hw]
   simp only[fG,if_false]
   exact next _ γ w (fun _ _=>rfl) hst.1 hst.2
  ·exact hst.elim
theorem En {F:ZS} {M:Mem} {Q:Exit→Act→World→Prop} (γ0:G) (Fe:G→ZS) (hb:pick (base.map Prod.fst) F=some base) (hB:BH ops.toList (base.map Prod.fst)=true) (hO:Ns ops.toList writes=true)
  (hD:(ops.toList.all fun o=>match o.dst with|some d=>Nat.blt d n|none=>true)=true) (hl:∀ γ,Nat.beq (vals γ).length ops.toList.length=true)
  (h0:∀ w,Sat w0 M w→Sat w0 (mem (writes.map fun _=>false) γ0) w) (he:∀ γ,pick ((Fe γ).map Prod.fst) (Bg ops.toList (vals γ)++base)=some (Fe γ))
  (hs:Steps P w0 ops base vals writes mem (ops.toList.drop 0) 0) (k:∀ γ,TE n w0 Q .normal (Fe γ) (mem (writes.map fun _=>true) γ)):∀ a w,Fr n F a→Sat w0 M w→wpAny P .any ops Q ops.size (Array.replicate ops.size false) a { w with drawn:=w.drawn+1 }:=by
 rw[eE] at hs
 intro a w hF hM
 refine PC hB hO (fun γ=>bH (hl γ)) hD (fun j o ho=>by have:=hs.get j o ho;rwa [bY] at this) (fun γ a' w' hK hM'=>?_) ops.size _ (fun _=>false) γ0 a _ (by simp) (fun k hk d=>by simp[hk]) (fun _ _ _ h=>by cases h) ?_ ?_ (h0 _ (hM.drawn _))
 ·have hK:=hK (fun _=>true) (fun _ _=>rfl)
  refine k γ a' w' ⟨hK.size,hK.defers,fun t v ht=>?_⟩ hM'
  have h1:=K0 _ _ _ (he γ) t v ht
  rw[Gx] at h1
  by_cases hw:∃ i,i∈VK ops.toList t
  ·obtain⟨i,hi⟩:=hw
   obtain⟨o,ho,hd⟩:=Jn.1 hi
   have hu:∀ k o2,ops.toList[k]?=some o2→o2.dst=some t→k=i:=fun k o2 hk hd2=>by
    have hb:=bF.1 hB i (dV.2 (aK.1 ho).1)
    rw[ho] at hb
    simp only[aX,hd] at hb
    have hb2:=hb.2
    split at hb2
    ·rename_i q hq
     have m2:=Jn.2 ⟨o2,hk,hd2⟩
     rw[hq] at hi m2
     simp only[bE] at hi m2
     omega
    ·cases hb2
   have hln:=bH (hl γ)
   rw[Hz ops.toList (vals γ) t i hln ⟨o,ho,hd⟩ hu] at h1
   have hi2:=(aK.1 ho).1
   rw[aM (by omega)] at h1
   simp only[aF] at h1
   rw[hK.new i o t ho hd rfl,aM (by omega),h1]
  ·have hz:look t (Bg ops.toList (vals γ))=none:=by
    cases hz:look t (Bg ops.toList (vals γ)) with
    | none=>rfl
    | some u =>
     exfalso
     have key:∀ (os:List Oper) (vs:List Value),look t (Bg os vs)=some u→∃ o∈os,o.dst=some t:=by
      intro os
      induction os with
      | nil=>intro vs h;cases vs <;> cases h
      | cons o os ih =>
       intro vs h
       cases vs with
       | nil=>cases h
       | cons v vs =>
        simp only[Bg] at h
        cases hd:o.dst with
        | none =>
         rw[hd] at h
         obtain⟨o2,h2,h3⟩:=ih vs h
         exact⟨o2,aG _ h2,h3⟩
        | some d =>
         rw[hd] at h
         simp only at h
         by_cases e:d=t
         ·subst e;exact⟨o,aJ ..,hd⟩
         ·rw[YR _ _ e] at h
          obtain⟨o2,h2,h3⟩:=ih vs h
          exact⟨o2,aG _ h2,h3⟩
     obtain⟨o,ho,hd⟩:=key _ _ hz
     obtain⟨i,hi⟩:=cW ho
     exact hw ⟨i,Jn.2 ⟨o,hi,hd⟩⟩
   rw[hz] at h1
   exact hK.old t v h1 fun i hi=>absurd ⟨i,hi⟩ hw
 ·have:∀ N,left (fun _=>false) N=N:=fun N=>by induction N with|zero=>rfl|succ N ih=>simp[left,ih]
  rw[this];exact aU _
 ·exact⟨hF.size,hF.defers,fun t v ht _=>hF.has t v (K0 _ _ _ hb t v ht),fun _ _ _ _ _ h=>by cases h⟩
theorem Jm {F:ZS} {M:Mem} {Q:Exit→Act→World→Prop} {id:Nat} (γ0:G) (Fe:G→ZS) (hm:P.follows .mixedOrders=true) (hb:pick (base.map Prod.fst) F=some base) (hB:BH ops.toList (base.map Prod.fst)=true) (hO:Ns ops.toList writes=true)
  (hD:(ops.toList.all fun o=>match o.dst with|some d=>Nat.blt d n|none=>true)=true) (hl:∀ γ,Nat.beq (vals γ).length ops.toList.length=true)
  (h0:∀ w,Sat w0 M w→Sat w0 (mem (writes.map fun _=>false) γ0) w) (he:∀ γ,pick ((Fe γ).map Prod.fst) (Bg ops.toList (vals γ)++base)=some (Fe γ))
  (hs:Steps P w0 ops base vals writes mem (ops.toList.drop 0) 0) (k:∀ γ,TE n w0 Q .normal (Fe γ) (mem (writes.map fun _=>true) γ)):TC P n w0 Q (.region id ops true) F M :=
 fun a w hF hM=>wp_region_any hm (En γ0 Fe hb hB hO hD hl h0 he hs k a w hF hM)
theorem Vw {F:ZS} {j:Nat} {s:Sem Next} {d:Option Tmp} (h:semAt ops.toList F j=some (s,d)):∃ o,ops.toList[j]?=some o∧U0 ops.toList F o=some true∧execOp (rho F) o=s∧o.dst=d:=by
 unfold semAt at h
 split at h
 ·rename_i o ho
  simp only[aF,aS] at h
  unfold opAt at ho
  split at ho
  ·rename_i o' ho'
   split at ho
   ·rename_i hg
    cases hb:(o'.op.operands.toList.all (known F)&&!Vk o'.op) with
    | false=>rw[hb] at ho;cases ho
    | true =>
     rw[hb] at ho
     simp only[cond_true,aF] at ho
     subst ho
     exact⟨_,ho',hg,h.1,h.2⟩
   ·cases ho
  ·cases ho
 ·cases h
theorem JS {i:Nat} (h:∀ o,ops.toList[i]?=some o→Nr P w0 ops base vals writes mem i o) (h2:Steps P w0 ops base vals writes mem (ops.toList.drop (i+1)) (i+1)):Steps P w0 ops base vals writes mem (ops.toList.drop i) i:=by
 rcases gE i ops.toList.length with hi|hi
 ·rw[eZ hi]
  exact⟨h _ (aM hi),h2⟩
 ·rw[cJ hi];trivial
theorem X6 {i:Nat} (hi:Nat.ble ops.toList.length i=true):Steps P w0 ops base vals writes mem (ops.toList.drop i) i:=by
 rw[cJ (aN hi)];trivial
theorem WN {j:Nat} (hw:writes.contains j=false) (S:Nat→Bool):writes.map (upS S j)=writes.map S :=
 dR fun k hk=>UR S (fun e=>by subst e;simp[hk] at hw)
def RE (P:Program) (ops:List Oper) (M:Mem) (F:ZS):List Oper→List Nat→Option (List Value×List (Nat×Nat))
 | [],_=>some ([],[])
 | o::r,hs=>match U0 ops F o with
  | some true=>match MR P M F (hs.headD 0) o with
   | some (v,es)=>match RE P ops M F r hs.tail with
    | some (vs,es')=>some (v::vs,es++es')
    | none=>none
   | none=>none
  | some false=>match RE P ops M F r hs.tail with
   | some (vs,es)=>some (undef::vs,es)
   | none=>none
  | none=>none
structure OkP (r:Option (List Value×List (Nat×Nat))) (vs:List Value):Prop where
 fst:r.map Prod.fst=some vs:=by kernel_rfl
 snd:BC r=Wx r:=by kernel_rfl
theorem BK (Mr:Mem) (hv:∀ S γ w,Sat w0 (mem (writes.map S) γ) w→Sat w0 Mr w):∀ (l:List Oper) (i:Nat) (hs:List Nat) (rest:List Oper),(∀ k,k<l.length→writes.contains (i+k)=false) →
  (∀ γ,∃ vs es,RE P ops.toList Mr (US ops.toList base (vals γ)) l hs=some (vs,es)∧(∀ p∈es,p.1=p.2)∧∀ (k:Nat) v,vs[k]?=some v→(vals γ)[i+k]?=some v) →
  Steps P w0 ops base vals writes mem rest (i+l.length)→Steps P w0 ops base vals writes mem (l++rest) i
 | [],i,hs,rest,_,_,h=>h
 | o::l,i,hs,rest,hw,hr,h=>by
  have hw0:=hw 0 (by simp)
  rw[bZ] at hw0
  refine⟨fun S γ w hSi _ _ hM=>?_,?_⟩
  ·obtain⟨vs,es,h1,h2,h3⟩:=hr γ
   rw[WN hw0]
   simp only[RE] at h1
   split at h1
   ·rename_i hg
    try rw[hg]
    split at h1
    ·rename_i v es1 hv1
     split at h1
     ·rename_i vs2 es2 hr2
      simp only[aF,aS] at h1
      obtain⟨rfl,rfl⟩:=h1
      have vi:=h3 0 v rfl
      rw[bZ] at vi
      unfold MR at hv1
      cases hb:(o.op.operands.toList.all (known (US ops.toList base (vals γ)))&&!Vk o.op) with
      | false=>rw[hb] at hv1;cases hv1
      | true =>
       rw[hb] at hv1
       simp only[cond_true] at hv1
       unfold U1
       split at hv1
       ·rename_i u es' hm
        simp only[aF,aS] at hv1
        obtain⟨rfl,rfl⟩:=hv1
        rw[Ky (hv S γ w hM) _ _ _ hm (fun p hp=>h2 p (by simp[hp]))]
        exact⟨γ,fun _ _=>rfl,vi,hM⟩
       ·rename_i es' hm
        simp only[aF,aS] at hv1
        obtain⟨rfl,rfl⟩:=hv1
        rw[Ky (hv S γ w hM) _ _ _ hm (fun p hp=>h2 p (by simp[hp]))]
        exact⟨γ,fun _ _=>rfl,vi,hM⟩
       ·cases hv1
     ·cases h1
    ·cases h1
   ·rename_i hg
    try rw[hg]
    split at h1
    ·rename_i vs2 es2 hr2
     simp only[aF,aS] at h1
     obtain⟨rfl,rfl⟩:=h1
     have vi:=h3 0 undef rfl
     rw[bZ] at vi
     exact⟨vi,hM⟩
    ·cases h1
   ·cases h1
  ·have h':Steps P w0 ops base vals writes mem rest (i+1+l.length):=by rwa [aI,show i+(l.length+1)=i+1+l.length by omega] at h
   have hw':∀ k,k<l.length→writes.contains (i+1+k)=false:=fun k hk=>by have:=hw (k+1) (by simp;omega);rwa [show i+(k+1)=i+1+k by omega] at this
   refine BK Mr hv l (i+1) hs.tail rest hw' (fun γ=>?_) h'
   obtain⟨vs,es,h1,h2,h3⟩:=hr γ
   simp only[RE] at h1
   have h4:∀ (v0:Value) (vs2:List Value),vs=v0::vs2→∀ (k:Nat) v,vs2[k]?=some v→(vals γ)[i+1+k]?=some v:=fun v0 vs2 e k v hk=>by
    have:=h3 (k+1) v (by rw[e];simpa using hk)
    rwa [show i+(k+1)=i+1+k by omega] at this
   split at h1
   ·split at h1
    ·split at h1
     ·rename_i vs2 es2 hr2
      simp only[aF,aS] at h1
      obtain⟨rfl,rfl⟩:=h1
      exact⟨vs2,es2,hr2,fun p hp=>h2 p (by simp[hp]),h4 _ vs2 rfl⟩
     ·cases h1
    ·cases h1
   ·split at h1
    ·rename_i vs2 es2 hr2
     simp only[aF,aS] at h1
     obtain⟨rfl,rfl⟩:=h1
     exact⟨vs2,es2,hr2,h2,h4 _ vs2 rfl⟩
    ·cases h1
   ·cases h1
theorem Steps.run (k:Nat) (hs:List Nat) (Mr:Mem) {i:Nat} (hik:Nat.ble i k=true) (hk:Nat.ble k ops.toList.length=true) (hv:∀ S γ w,Sat w0 (mem (writes.map S) γ) w→Sat w0 Mr w) (hw:((List.range (k-i)).all fun j=>!writes.contains (i+j))=true)
  (hr:∀ γ,OkP (RE P ops.toList Mr (US ops.toList base (vals γ)) ((ops.toList.drop i).take (k-i)) hs) (((vals γ).drop i).take (k-i)))
  (h:Steps P w0 ops base vals writes mem (ops.toList.drop k) k):Steps P w0 ops base vals writes mem (ops.toList.drop i) i:=by
 have h1:=aN hik
 have h2:=aN hk
 have hl:((ops.toList.drop i).take (k-i)).length=k-i:=by rw[aZ,aH];omega
 rw[U5 ops.toList h1]
 refine BK Mr hv _ i hs _ (fun j hj=>?_) (fun γ=>?_) (by rw[hl,show i+(k-i)=k by omega];exact h)
 ·rw[hl] at hj
  simpa using bF.1 hw j (dV.2 hj)
 ·obtain⟨h3,h4⟩:=hr γ
  cases hc:RE P ops.toList Mr (US ops.toList base (vals γ)) ((ops.toList.drop i).take (k-i)) hs with
  | none=>rw[hc] at h3;cases h3
  | some x =>
   rw[hc] at h3 h4
   simp only[cU,aF] at h3
   refine⟨x.1,x.2,rfl,UN _ h4,fun q v hq=>?_⟩
   rw[h3,gI] at hq
   split at hq
   ·rwa [cN] at hq
   ·cases hq
theorem XB (s:G→Sem Next) (d:Option Tmp) (v:G→Value) (Mv:G→Mem) {i:Nat} (hw:writes.contains i=false)
  (hM:∀ S γ w,(∀ e:Nat,(Q2 ops.toList i).contains e=true→S e=true)→Sat w0 (mem (writes.map S) γ) w→Sat w0 (Mv γ) w) (hv:∀ γ w,Sat w0 (Mv γ) w→(s γ).run P w=.ok (.value (v γ)) w)
  (hs:∀ γ,semAt ops.toList (US ops.toList base (vals γ)) i=some (s γ,d)) (vi:∀ γ,(vals γ)[i]?=some (v γ))
  (h:Steps P w0 ops base vals writes mem (ops.toList.drop (i+1)) (i+1)):Steps P w0 ops base vals writes mem (ops.toList.drop i) i:=by
 refine JS (fun o ho S γ w hSi hd hc hMw=>?_) h
 obtain⟨o',h1,h2,h3,h4⟩:=Vw (hs γ)
 rw[ho] at h1
 simp only[aF] at h1
 subst h1
 rw[h2,WN hw]
 simp only
 unfold U1
 rw[h3,hv γ w (hM S γ w (fun e he=>hd e (by unfold Q2 at he;rw[ho] at he;simpa using he)) hMw)]
 exact⟨γ,fun _ _=>rfl,vi γ,hMw⟩
theorem WG (s:G→Sem Next) (d:Option Tmp) (v:G→Value) (Mv:G→Mem) {i:Nat} (hw:writes.contains i=false)
  (hM:∀ S γ w,S i=false→(∀ e:Nat,(Q2 ops.toList i).contains e=true→S e=true)→(∀ j k:Nat,(Q2 ops.toList k).contains j=true→S k=true→S j=true)→Sat w0 (mem (writes.map S) γ) w→Sat w0 (Mv γ) w) (hv:∀ γ w,Sat w0 (Mv γ) w→(s γ).run P w=.ok (.value (v γ)) w)
  (hs:∀ γ,semAt ops.toList (US ops.toList base (vals γ)) i=some (s γ,d)) (vi:∀ γ,(vals γ)[i]?=some (v γ))
  (h:Steps P w0 ops base vals writes mem (ops.toList.drop (i+1)) (i+1)):Steps P w0 ops base vals writes mem (ops.toList.drop i) i:=by
 refine JS (fun o ho S γ w hSi hd hc hMw=>?_) h
 obtain⟨o',h1,h2,h3,h4⟩:=Vw (hs γ)
 rw[ho] at h1
 simp only[aF] at h1
 subst h1
 rw[h2,WN hw]
 simp only
 unfold U1
 rw[h3,hv γ w (hM S γ w hSi (fun e he=>hd e (by unfold Q2 at he;rw[ho] at he;simpa using he)) (fun j k hjk hk=>by
  unfold Q2 at hjk
  split at hjk
  ·rename_i o2 ho2
   exact hc k o2 ho2 hk j (by simpa using hjk)
  ·simp at hjk) hMw)]
 exact⟨γ,fun _ _=>rfl,vi γ,hMw⟩
theorem lat {S:Nat→Bool} {j k:Nat} (h:S k=true→S j=true) (hj:S j=false):S k=false:=by
 cases hk:S k with
 | false=>rfl
 | true=>rw[h hk] at hj;cases hj
theorem Steps.call (f:FuncId) (args:G→Array Value) (d:Option Tmp) (v:G→Value) (Mv:G→Mem) {i:Nat} (hw:writes.contains i=false)
  (hM:∀ S γ w,(∀ e:Nat,(Q2 ops.toList i).contains e=true→S e=true)→Sat w0 (mem (writes.map S) γ) w→Sat w0 (Mv γ) w) (hv:∀ γ w,Sat w0 (Mv γ) w→Calls P f (args γ) w (Ret w (v γ)))
  (hs:∀ γ,UO P ops.toList (US ops.toList base (vals γ)) i=some (f,args γ,d)) (vi:∀ γ,(vals γ)[i]?=some (v γ))
  (h:Steps P w0 ops base vals writes mem (ops.toList.drop (i+1)) (i+1)):Steps P w0 ops base vals writes mem (ops.toList.drop i) i:=by
 refine JS (fun o ho S γ w hSi hd hc hMw=>?_) h
 have hsγ:=hs γ
 unfold UO at hsγ
 split at hsγ
 ·rename_i s d' hsem
  split at hsγ
  ·rename_i f' args' hm
   simp only[aF,aS] at hsγ
   obtain⟨rfl,gr,rfl⟩:=hsγ
   obtain⟨o',h1,h2,h3,h4⟩:=Vw hsem
   rw[ho] at h1
   simp only[aF] at h1
   subst h1
   rw[h2,WN hw]
   simp only
   unfold U1
   rw[h3,Ky (Sat.start w) s _ _ hm (by simp)]
   simp only
   rw[gr]
   exact(hv γ w (hM S γ w (fun e he=>hd e (by unfold Q2 at he;rw[ho] at he;simpa using he)) hMw)).mono fun e w' he=>⟨_,he.1,γ,fun _ _=>rfl,vi γ,hMw.later he.2⟩
  ·cases hsγ
 ·cases hsγ
def U7 (D:List Nat):Nat→List Value→List Value
 | _,[]=>[]
 | k,v::vs=>(bif D.contains k then undef else v)::U7 D (k+1) vs
theorem FB (D:List Nat):∀ (vs:List Value) (k i:Nat),(U7 D k vs)[i]?=(vs[i]?).map fun v=>bif D.contains (k+i) then undef else v
 | [],k,i=>by simp[U7]
 | v::vs,k,0=>by simp[U7]
 | v::vs,k,i+1=>by
  simp only[U7,bG]
  rw[FB D vs (k+1) i,show k+1+i=k+(i+1) by omega]
def PD (ops:List Oper) (j:Nat) (D:List Nat):Bool:=D.all fun i=>Nat.beq i j||(Q2 ops i).any fun e=>D.contains e&&Nat.blt e i
theorem PE {j:Nat} {D:List Nat} (hD:PD ops.toList j D=true) {S:Nat→Bool} (hSj:S j=false) (hc:∀ i o',ops.toList[i]?=some o'→S i=true→∀ e∈aft o',S e=true):∀ (m i:Nat),i<m→i∈D→S i=false:=by
 intro m
 induction m with
 | zero=>intro i hi;exact absurd hi (cE _)
 | succ m ih =>
  intro i hi hm
  have:=bF.1 hD i hm
  simp only[fX,List.any_eq_true,aX] at this
  rcases this with h|⟨e,he,h1,h2⟩
  ·rw[bH h];exact hSj
  ·have hlt:e<i:=aN h2
   have hSe:=ih e (by omega) (by simpa using h1)
   cases hSi:S i with
   | false=>rfl
   | true =>
    unfold Q2 at he
    split at he
    ·rename_i o ho
     rw[hc i o ho hSi e he] at hSe;cases hSe
    ·cases he
theorem agree {j:Nat} {D:List Nat} (hD:PD ops.toList j D=true) {S:Nat→Bool} (hSj:S j=false) (hc:∀ i o',ops.toList[i]?=some o'→S i=true→∀ e∈aft o',S e=true) {γ γ':G}
  (hm:U7 D 0 (vals γ')=U7 D 0 (vals γ)):∀ i:Nat,S i=true→(vals γ')[i]?=(vals γ)[i]?:=fun i hi=>by
 have hn:D.contains (0+i)=false:=by
  cases hc2:D.contains (0+i) with
  | false=>rfl
  | true =>
   have:=PE hD hSj hc (i+1) i (cY _) (by simpa using hc2)
   rw[hi] at this;cases this
 have:=congrArg (fun l=>l[i]?) hm
 simp only[FB,hn,cond_false,Option.map_id'] at this
 simpa using this
theorem VC {i:Nat} {S:Nat→Bool} (hSi:S i=false) (hc:∀ k o',ops.toList[k]?=some o'→S k=true→∀ e∈aft o',S e=true):∀ k:Nat,(Q2 ops.toList k).contains i=true→S k=false:=fun k hk=>by
 cases hS:S k with
 | false=>rfl
 | true =>
  unfold Q2 at hk
  split at hk
  ·rename_i o ho
   rw[hc k o ho hS i (by simpa using hk)] at hSi;cases hSi
  ·cases hk
theorem Steps.op {Γ:Type} (set:Γ→G→G) (E:G→Mem) (E':Γ→G→Mem) (X:(Nat→Bool)→G→Mem) (D:List Nat) (s:G→Sem Next) (d:Option Tmp) (v:Γ→G→Value) {i:Nat}
  (fg:∀ S γ,S i=false→(∀ e:Nat,(Q2 ops.toList i).contains e=true→S e=true)→(∀ k:Nat,(Q2 ops.toList k).contains i=true→S k=false)→(mem (writes.map S) γ).Perm (E γ++X S γ))
  (um:∀ S γ g,(∀ k:Nat,(Q2 ops.toList k).contains i=true→S k=false)→(E' g γ++X S γ).Perm (mem (writes.map (upS S i)) (set g γ)))
  (hv:∀ γ M' w,Sat w0 (E γ++M') w→∃ g w',(s γ).run P w=.ok (.value (v g γ)) w'∧Sat w0 (E' g γ++M') w')
  (hs:∀ γ,semAt ops.toList (US ops.toList base (vals γ)) i=some (s γ,d)) (vi:∀ γ g,(vals (set g γ))[i]?=some (v g γ))
  (hD:PD ops.toList i D=true) (gu:∀ γ g,U7 D 0 (vals (set g γ))=U7 D 0 (vals γ))
  (h:Steps P w0 ops base vals writes mem (ops.toList.drop (i+1)) (i+1)):Steps P w0 ops base vals writes mem (ops.toList.drop i) i:=by
 refine JS (fun o ho S γ w hSi hd hc hMw=>?_) h
 obtain⟨o',h1,h2,h3,h4⟩:=Vw (hs γ)
 rw[ho] at h1
 simp only[aF] at h1
 subst h1
 have hd':∀ e:Nat,(Q2 ops.toList i).contains e=true→S e=true:=fun e he=>hd e (by unfold Q2 at he;rw[ho] at he;simpa using he)
 rw[h2]
 simp only
 unfold U1
 obtain⟨g,w',hr,hM'⟩:=hv γ _ w (hMw.perm (fg S γ hSi hd' (VC hSi hc)))
 rw[h3,hr]
 exact⟨set g γ,agree hD hSi hc (gu γ g),vi γ g,hM'.perm (um S γ g (VC hSi hc))⟩
theorem Steps.put (E:G→Mem) (E':G→Mem) (X:(Nat→Bool)→G→Mem) (s:G→Sem Next) (d:Option Tmp) {i:Nat}
  (fg:∀ S γ,S i=false→(∀ e:Nat,(Q2 ops.toList i).contains e=true→S e=true)→(∀ k:Nat,(Q2 ops.toList k).contains i=true→S k=false)→(mem (writes.map S) γ).Perm (E γ++X S γ))
  (um:∀ S γ,(∀ k:Nat,(Q2 ops.toList k).contains i=true→S k=false)→(E' γ++X S γ).Perm (mem (writes.map (upS S i)) γ))
  (hv:∀ γ M' w,Sat w0 (E γ++M') w→∃ w',(s γ).run P w=.ok .skip w'∧Sat w0 (E' γ++M') w')
  (hs:∀ γ,semAt ops.toList (US ops.toList base (vals γ)) i=some (s γ,d)) (vi:∀ γ,(vals γ)[i]?=some undef)
  (h:Steps P w0 ops base vals writes mem (ops.toList.drop (i+1)) (i+1)):Steps P w0 ops base vals writes mem (ops.toList.drop i) i:=by
 refine JS (fun o ho S γ w hSi hd hc hMw=>?_) h
 obtain⟨o',h1,h2,h3,h4⟩:=Vw (hs γ)
 rw[ho] at h1
 simp only[aF] at h1
 subst h1
 have hd':∀ e:Nat,(Q2 ops.toList i).contains e=true→S e=true:=fun e he=>hd e (by unfold Q2 at he;rw[ho] at he;simpa using he)
 rw[h2]
 simp only
 unfold U1
 obtain⟨w',hr,hM'⟩:=hv γ _ w (hMw.perm (fg S γ hSi hd' (VC hSi hc)))
 rw[h3,hr]
 exact⟨γ,fun _ _=>rfl,vi γ,hM'.perm (um S γ (VC hSi hc))⟩
end
theorem Nu {l m:Mem} {e:Ent} (h:l.Sublist m):(e::l).Sublist ([e]++m):=h.cons_cons e
theorem Zl {s l m:Mem} (h:l.Sublist m):l.Sublist (s++m):=List.sublist_append_of_sublist_right h
theorem ZC {α:Type} (a e b:List α):(a++(e++b)).Perm (e++(a++b)):=List.perm_append_comm_assoc a e b
theorem Q4 {P:Program} {w0:Ctx} {s:Sem Next} {v:Nat→Value} {o:Obj} (h:∀ (b:Nat) (M:Mem),mw P 0 b s M=some (.value (v b),.inl (b,o)::M,[])) (M':Mem) (w:World) (hM:Sat w0 ([]++M') w) :
  ∃ (b:Nat) (w':World),s.run P w=.ok (.value (v b)) w'∧Sat w0 ([.inl (b,o)]++M') w':=by
 obtain⟨w',h1,h2⟩:=VV s M' w _ _ _ hM rfl (h w.heap.size M') (by simp)
 exact⟨w.heap.size,w',h1,h2⟩
def Ai:Option (Next×Mem×List (Nat×Nat))→Option (Next×Mem)
 | some (x,m,_)=>some (x,m)
 | none=>none
def Aj:Option (Next×Mem×List (Nat×Nat))→List Nat×List Nat
 | some (_,_,es)=>(es.map Prod.fst,es.map Prod.snd)
 | none=>([],[])
theorem JB {P:Program} {w0:Ctx} {s:Sem Next} {e e':Ent} (h:∀ (b:Nat) (M:Mem),Ai (mw P 0 b s (e::M))=some (.skip,e'::M)) (h2:∀ (b:Nat) (M:Mem),(Aj (mw P 0 b s (e::M))).1=(Aj (mw P 0 b s (e::M))).2)
  (M':Mem) (w:World) (hM:Sat w0 ([e]++M') w):∃ (w':World),s.run P w=.ok .skip w'∧Sat w0 ([e']++M') w':=by
 have h1:=h w.heap.size M'
 have h3:=h2 w.heap.size M'
 cases hm:mw P 0 w.heap.size s (e::M') with
 | none=>rw[hm] at h1;cases h1
 | some x =>
  obtain⟨x,m,es⟩:=x
  rw[hm] at h1 h3
  simp only[Ai,aF,aS] at h1
  obtain⟨rfl,rfl⟩:=h1
  exact VV s (e::M') w _ _ _ hM rfl hm (UN _ h3)
end Go.Eng
end
section
namespace Go.Glue
open Go.ChangeShapes Go.WideShapes Go.ChangeAt Go.RowKit Go.Deep Go.Eng
section
variable {H:Type} {enc:TypeId×Value→H} {P:Program}
theorem Ff {f:Func} {s:ChangeSpec} {apart fresh handsOn again:Bool} {W W':World} {args:Array Value} {v:Value} {ds gs:List (DataW H)} {before pa pv:List MemPlace}
  (hW:DataW.Whole enc P f.params.toList s.vars apart W args.toList ds gs before)
  (dt:∀ (b:Nat) (sp:Nat→Bool) (hd:Bool),DataW.TrodAll enc P W' b sp hd f.resultTypes.toList (v.resultList f.resultTypes.size) (s.fn H (ds++gs)).results [])
  (gr:∀ sp:Nat→Bool,(∀ p∈before,sp p.block=true)→DataW.TrodAll enc P W' 0 sp true f.params.toList args.toList (s.fn H (ds++gs)).args pa)
  (tl:∀ sp:Nat→Bool,(∀ p∈before,sp p.block=true)→DataW.TrodVars enc P W' sp s.vars (s.fn H (ds++gs)).vars pv)
  (hps:before=pa++pv) (hb:RowKit.Below W.heap.size W W')
  (hok:∀ (j:Nat) (t:TypeId) (r:Value),f.resultTypes[j]?=some t→(v.resultList f.resultTypes.size)[j]?=some r→Value.okWide P W' .any 0 t r) :
  s.post enc P f apart fresh handsOn again W args v W':=by
 have hlt:∀ p∈before,p.block<W.heap.size:=fun p hp=>hW.lt p hp
 have hold:∀ p∈before,(fun b=>decide (b<W.heap.size)) p.block=true:=fun p hp=>by simpa using hlt p hp
 refine⟨ds,gs,before,[],pa,pv,hW,dt _ _ _,gr _ hold,tl _ hold,World.keptBut_mono (fun p hp=>⟨hp,?_⟩) (hb.frame (·∈before)),fun _=>?_⟩
 ·rw[hps,bO] at hp
  exact Or.inr hp
 ·obtain⟨_,_,_,_,_,hz,hn⟩:=hW
  refine⟨hok,_,_,([]++pa)++pv,⟨[]++pa,pv,trodAll_append (gr _ (fun _ _=>rfl)) (dt _ _ _),tl _ (fun _ _=>rfl),rfl,?_,?_⟩,?_⟩
  ·intro b off hp
   have hin:MemPlace.cell b off∈before:=by rw[hps];simpa using hp
   rw[hb.frozen (hlt _ hin)]
   exact hz b off hin
  ·intro ha
   have:=hn ha
   rw[hps] at this
   simpa using this
  ·intro p hp _
   rw[hps]
   simpa using hp
theorem HN {W:World} {base:Nat} {sp:Nat→Bool} {hd:Bool}:∀ {ts:List TypeId} {vs:List Value} {ds:List (DataW H)} {ps:List MemPlace},DataW.TrodAll enc P W base sp hd ts vs ds ps→ds.length=ts.length
 | [],_,_,_,h=>by
  obtain⟨_,rfl,_⟩:=trodAll_nil h
  rfl
 | t::ts,_,_,_,h=>by
  obtain⟨v,vs,d,ds,p,q,rfl,rfl,rfl,_,h1⟩:=trodAll_cons h
  simp[HN h1]
theorem FC (hl:laidOutB P=true) {W W':World} (hb:RowKit.Below W.heap.size W W') {sp:Nat→Bool}:∀ {ts:List TypeId} {vs:List Value} {ds:List (DataW H)} {ps:List MemPlace},
  ts.all (fun t=>P.readableRec t&&decide (t<P.types.size))=true→DataW.TrodAll enc P W 0 (fun _=>true) true ts vs ds ps→(∀ p∈ps,p.block<W.heap.size)→(∀ p∈ps,sp p.block=true) →
  DataW.TrodAll enc P W' 0 sp true ts vs ds ps
 | [],_,_,_,_,h,_,_=>by
  obtain⟨rfl,rfl,rfl⟩:=trodAll_nil h
  exact trodAll_mk0
 | t::ts,_,_,_,ht,h,hlt,hsp=>by
  obtain⟨v,vs,d,ds,p,q,rfl,rfl,rfl,h0,h1⟩:=trodAll_cons h
  simp only[List.all_cons,aX,decide_eq_true_eq] at ht
  exact⟨p,q,WideElems.Trod_stays hl ht.1.1 ht.1.2 h0 (fun x hx=>hb.same (hlt x (cG _ hx))) (fun x hx=>hsp x (cG _ hx)),
   FC hl hb ht.2 h1 (fun x hx=>hlt x (eP _ hx)) (fun x hx=>hsp x (eP _ hx)),rfl⟩
end
def Ld (P:Program) (t:TypeId) {α:Type} (c:α→Array Value) (ok:α→Prop):Prop :=
 ∀ {H:Type} {enc:TypeId×Value→H} {W:World} {base:Nat} {sp:Nat→Bool} {hd:Bool} {fuel:Nat} {cs:List Value} {x:DataW H×List MemPlace},
  DataW.trod enc P W base sp hd fuel t cs=some x→∃ a,cs=(c a).toList∧ok a
def I64 (x:Int):Prop:=-9223372036854775808≤x∧x≤9223372036854775807
theorem Tq {x:Int} (h:(Lit.int .i64 x).wf=true):I64 x:=by
 simp only[Lit.wf,aX,decide_eq_true_eq] at h
 exact h
theorem Sv {P:Program} {t:TypeId} (ht:P.underlying t=some (.int .i64)):Ld P t ic I64:=by
 intro H enc W base sp hd fuel cs x h
 obtain⟨n,rfl,_,hw⟩:=DataW.trod_int ht h
 exact⟨n,rfl,Tq hw⟩
section
variable {H:Type} {enc:TypeId×Value→H} {P:Program} {W:World} {base b0:Nat} {sp:Nat→Bool} {hd:Bool} {t:TypeId} {v:Value} {d:DataW H} {p:List MemPlace}
theorem Eo (ht:P.underlying t=some (.int .i64)) (vi:Value.okWide P W .any b0 t v) (h:DataW.Trod enc P W base sp hd t v d p):∃ a,v=.int .i64 a∧I64 a:=by
 obtain⟨a,rfl,_,_,w⟩:=open_int ht vi h
 exact⟨a,rfl,Tq w⟩
theorem Ep {α:Type} {ok:α→Prop} (n:Nat) {q:Nat→α→Prop} (h:∀ i,i<n→∃ a,q i a∧ok a):∃ l:List α,l.length=n∧(∀ a∈l,ok a)∧∀ i a,l[i]?=some a→q i a:=by
 induction n with
 | zero=>exact⟨[],rfl,by simp,by simp⟩
 | succ n ih =>
  obtain⟨l,hl,hk,hq⟩:=ih fun i hi=>h i (by omega)
  obtain⟨a,ha,hka⟩:=h n (by omega)
  refine⟨l ++ [a],by simp[hl],fun b hb=>?_,fun i b hb=>?_⟩
  ·rcases bO.1 hb with hb|hb
   ·exact hk b hb
   ·rw[bE.1 hb];exact hka
  ·by_cases hi:i<l.length
   ·rw[dY hi] at hb;exact hq i b hb
   ·have:i=l.length:=by
     have:=(aK.1 hb).1
     simp at this;omega
    subst this
    simp at hb
    subst hb
    rw[hl];exact ha
theorem Le {α:Type} {c:α→Array Value} {ok:α→Prop} {e:TypeId} {sz by_:Nat} (ho:Ld P e c ok) (ht:P.underlying t=some (.slice e)) (hc:P.cellsOf e=sz) (hp:0<sz) (hby:P.bytesOf e=by_) (hbp:0<by_)
  {fuel:Nat} {cs:List Value} {x:DataW H×List MemPlace} (h:DataW.trod enc P W base sp hd fuel t cs=some x) (hw:∀ n∈x.1.weights P t,n≤reachBytes) :
  ∃ (A:Option Addr) (cap:Nat) (l:List α),cs=[.slice A l.length cap]∧Rd W sz A (l.map c)∧l.length≤cap∧∀ a∈l,ok a:=by
 rcases open_slice ht h with ⟨rfl,rfl⟩|⟨a,len,cap,m,n,D,Pl,rfl,hb,hlc,hm,rfl,rfl,hx⟩
 ·exact⟨none,0,[],rfl,Rd.nil _ _,aU _,by simp⟩
 ·have hlm:len≤(if sp a.block then cap else len):=by split <;> omega
  obtain⟨l,hl,hk,hq⟩:=Ep (ok:=ok) len (q:=fun i r=>W.cells? base (a.add (i*P.cellsOf e)) (P.cellsOf e)=some (c r).toList) (fun i hi=>by
   obtain⟨cs',h1,h2⟩:=hx i (by omega)
   obtain⟨r,rfl,k⟩:=ho h2
   exact⟨r,h1,k⟩)
  refine⟨some a,cap,l,by rw[hl],⟨?_,fun i r hi=>?_⟩,by omega,hk⟩
  ·have:=hw _ (by show _∈DataW.weights P t (.slice _ _);simp only[DataW.weights,ht];exact aJ ..)
   rw[hby] at this
   simp only[aD,List.length_range] at this
   have h2:len*1≤(len+((if sp a.block then cap else len)-len))*by_:=Nat.mul_le_mul (by omega) hbp
   simp only[aD,hl]
   have:reachBytes<4611686018427387904:=by decide
   omega
  ·rw[aT] at hi
   obtain⟨y,hy,rfl⟩:=Option.map_eq_some_iff.1 hi
   obtain⟨_,h3,h4⟩:=World.cells?_some (hq i y hy)
   rw[hc] at h3 h4
   have ua:∀ (j:Nat) (u:Value),(c y)[j]?=some u→W.cell? (a.add (i*sz+j))=some u:=fun j u hu=>by
    have hj:j<sz:=by
     have:=(bW.1 hu).1
     rw[← h3];simpa using this
    rw[← add_add',h4 j hj,bI];exact hu
   refine⟨by rw[← h3];simp,a,rfl,?_,ua⟩
   have h0:=ua 0 ((c y)[0]'(by rw[← bC,h3];exact hp)) (cI _)
   unfold World.cell? at h0
   rw[Wy] at h0
   split at h0
   ·rename_i hh
    exact(bW.1 hh).1
   ·cases h0
theorem Sz {α:Type} {c:α→Array Value} {ok:α→Prop} {e:TypeId} {sz by_:Nat} (ho:Ld P e c ok) (ht:P.underlying t=some (.slice e)) (hc:P.cellsOf e=sz) (hp:0<sz) (hby:P.bytesOf e=by_) (hbp:0<by_)
  (vi:Value.okWide P W .any b0 t v) (h:DataW.Trod enc P W base sp hd t v d p) (hw:∀ n∈d.weights P t,n≤reachBytes) :
  ∃ (A:Option Addr) (cap:Nat) (l:List α),v=.slice A l.length cap∧Rd W sz A (l.map c)∧l.length≤cap∧∀ a∈l,ok a:=by
 obtain⟨A,n,cap,rfl⟩:=okWide_slice ht vi
 obtain⟨fuel,hf⟩:=h
 obtain⟨A',db,l,e,k⟩:=Le ho ht hc hp hby hbp hf hw
 rw[show (Value.slice A n cap).cells.toList=[.slice A n cap] from rfl] at e
 simp only[gY,Value.slice.injEq,and_true] at e
 obtain⟨rfl,rfl,rfl⟩:=e
 exact⟨_,_,l,rfl,k⟩
end
end Go.Glue
end
section
namespace Go.Sky
open Go.Glue
def P.ok (x:P):Prop:=I64 x.X∧I64 x.Y
def Zs.ok (x:Zs):Prop:=I64 x.Radar∧I64 x.Time∧I64 x.Range∧I64 x.Azimuth∧I64 x.Height∧I64 x.Code
def XV.ok (x:XV):Prop:=I64 x.Range∧I64 x.Azimuth∧I64 x.Time
def Zn.ok (x:Zn):Prop:=I64 x.ID∧x.At.ok∧I64 x.Reach∧I64 x.RangeError∧I64 x.AzimuthError
def Track.ok (x:Track):Prop:=I64 x.ID∧I64 x.State∧I64 x.Time∧x.At.ok∧x.Speed.ok∧I64 x.Height∧I64 x.Rate∧I64 x.Radius∧I64 x.Code∧I64 x.Hits∧I64 x.Misses
def Zj.ok (x:Zj):Prop:=I64 x.Time∧x.At.ok∧I64 x.Height∧I64 x.Code∧I64 x.Error
def Za.ok (x:Za):Prop:=x.Track.ok∧I64 x.Slack∧x.Last.ok
def Zg.ok (x:Zg):Prop:=I64 x.Hits∧I64 x.Scans
def XC.ok (x:XC):Prop:=I64 x.Time∧I64 x.Level
def Sep.ok (x:Sep):Prop:=I64 x.Lateral∧I64 x.Vertical
def Q9.ok (x:Q9):Prop:=I64 x.A∧I64 x.B∧I64 x.Seconds
def GZ.ok (x:GZ):Prop:=I64 x.From∧I64 x.To
def Node.ok (x:Node):Prop:=I64 x.Time∧x.At.ok∧I64 x.Height
def Zd.ok (x:Zd):Prop:=x.Node.ok∧I64 x.Radius∧I64 x.Band
def ZB.ok (x:ZB):Prop:=I64 x.Need∧I64 x.Of∧I64 x.Misses∧I64 x.Accel∧I64 x.Place∧I64 x.Speed
def followed.ok (x:followed):Prop:=x.f.ok∧x.history.ok
end Go.Sky
end
section
namespace Go.Eng
def Qm (p:Prop):Res where
 foot _:=False
 holds _:=p
 lt _ _ _ h:=h.elim
 kept _ _ h _:=h
theorem Sat.fact {w0:Ctx} {w:World} {M:Mem} {p:Prop} (h:Sat w0 M w) (hp:p):Sat w0 (.inr (Qm p)::M) w:=h.push (Below.refl _ _) _ hp (fun _ hb=>hb.elim)
theorem Sat.fact_at {w0:Ctx} {w:World} {M:Mem} {p:Prop} (h:Sat w0 M w) (j:Nat) (hj:M[j]?=some (.inr (Qm p))):p:=h.res hj
section
variable {α:Type} {p:List (List α)} {r:List (Sl α)} {s:Sl α} {x:List α}
theorem JI (h:p=r.map Sl.l) (k:Nat):(r[k]?.getD Sl.zero).l=p[k]?.getD []:=by
 subst h
 rw[aT]
 cases r[k]? <;> rfl
theorem JW (h:p=r.map Sl.l) {k:Nat} (hx:p[k]?=some x):(r[k]?.getD Sl.zero).l=x:=by rw[JI h,hx];rfl
theorem Jt (h:p=r.map Sl.l):p.length=(r.map Sl.c).length:=by subst h;simp
theorem JC (h:p=r.map Sl.l):p.length=r.length:=by subst h;simp
theorem U9 (h:p=r.map Sl.l) {k:Nat} (hk:k<p.length):k<r.length:=by rw[← JC h];exact hk
theorem Ak (h:p=r.map Sl.l) {k:Nat} (hk:p.length≤k):r.length≤k:=by rw[← JC h];exact hk
theorem BL (h:p=r.map Sl.l) {k:Nat} (hk:r.length≤k):p.length≤k:=by rw[JC h];exact hk
theorem XS {w:World} {sz:Nat} {c:α→Array Value} (h:∀ s∈r,s.rd w sz c) (k:Nat):(r[k]?.getD Sl.zero).rd w sz c:=by
 cases hk:r[k]? with
 | none=>exact Sl.rd_zero w sz c
 | some s=>exact h s (aR hk)
theorem JD {w:World} {sz:Nat} {c:α→Array Value} (h:s.rd w sz c) (e:s.l=x):Rd w sz s.A (x.map c):=by subst e;exact h.rd
theorem Lh {w:World} {sz:Nat} {c:α→Array Value} (h:s.rd w sz c) (e:s.l=x):x.length≤s.cap:=by subst e;exact h.le
theorem GL (h:p=r.map Sl.l) (n:Nat):p.drop n=(r.drop n).map Sl.l:=by subst h;rw[List.map_drop]
theorem Nv {q:Sl α→Prop} (h:∀ s∈r,q s) (n:Nat):∀ s∈r.drop n,q s:=fun s hs=>h s (fU hs)
theorem Gy (h:p=r.map Sl.l):p ++ [s.l]=(r ++ [s]).map Sl.l:=by subst h;simp
end
end Go.Eng
namespace Go.Eng
theorem Tt (x:Int):0≤YI x:=by
 show 0≤IntKind.u64.wrap x
 simp only[IntKind.wrap_u64];omega
theorem Es (x:Int):YI x=x%18446744073709551616:=IntKind.wrap_u64 x
theorem Nw {x:Int} (h:0≤x∧x≤18446744073709551615):YI x=x:=by rw[Es];omega
end Go.Eng
namespace Go.Sky
open Go Go.Eng
theorem XD {α:Type} (c:Bool) (x y:α):cond c x y=if c=true then x else y:=by cases c <;> rfl
theorem PG {a:Int} (b:Int) (h:0≤a):a.tmod b=a%b:=cP h
theorem PH {a:Int} (b:Int) (h:a≤0):a.tmod b=-((-a)%b):=by
 have e:a.tmod b=-((-a).tmod b):=by rw[Int.neg_tmod,fV]
 rw[e,PG b (by omega)]
theorem UA {a:Int} (b:Int) (h:0≤a):a.tdiv b=a/b:=dB h
theorem PI {a:Int} (b:Int) (h:a≤0):a.tdiv b=-((-a)/b):=by
 have e:a.tdiv b=-((-a).tdiv b):=by rw[Int.neg_tdiv,fV]
 rw[e,UA b (by omega)]
theorem WO {a b:Int} (ha:0≤a) (hb:0<b):0≤a/b∧a/b≤a :=
 ⟨Int.ediv_nonneg ha (by omega),Int.ediv_le_self b ha⟩
end Go.Sky
namespace Go.Eng
theorem Sat.pass {w0:Ctx} {w:World} {Mp Mr:Mem} (h:Sat w0 (Mp++Mr) w):Sat ⟨w,XR Mp⟩ Mp w :=
 ⟨Chg.refl _ _,fun e he=>⟨(h.own e (cG _ he)).1,fun _ hb=>.inl ⟨e,he,hb⟩⟩,(cX.1 h.apart).1⟩
end Go.Eng
end
section
namespace Go.Eng
theorem FD (t:Nat) (F:ZS):∀ A:ZS,look t (A++F)=match look t A with|some v=>some v|none=>look t F
 | []=>rfl
 | (k,v)::A=>by
  by_cases e:k=t
  ·subst e;rw[dH,YD,YD]
  ·rw[dH,YR _ _ e,YR _ _ e];exact FD t F A
def I8 (A F:ZS) (l:List Oper):Bool:=l.all fun o=>match o.dst with
 | none=>true
 | some d=>(look d A).isSome||!(look d F).isSome
theorem BM {n:Nat} {F G:ZS} {d:Option Tmp} {v:Value} {t:Nat} (h:Gs n F d v=some G) (ht:d≠some t):look t G=look t F:=by
 unfold Gs at h
 split at h
 ·simp only[aF] at h;subst h;rfl
 ·rename_i d'
  cases hb:Nat.blt d' n with
  | false=>rw[hb] at h;cases h
  | true =>
   rw[hb] at h
   simp only[cond_true,aF] at h
   subst h
   exact YR _ _ (fun e=>ht (by rw[e]))
theorem W0 {P:Program} {n:Nat} {ops:List Oper} {M:Mem} {t:Nat}:∀ (l:List Oper) (hs:List Nat) (F G:ZS) (es:List (Nat×Nat)),Vt P n ops M l hs F=some (G,es)→(∀ o∈l,o.dst≠some t)→look t G=look t F
 | [],hs,F,G,es,h,_=>by simp only[Vt,aF,aS] at h;rw[h.1]
 | o::l,hs,F,G,es,h,ht=>by
  have h0:=ht o (aJ ..)
  have h1:∀ o∈l,o.dst≠some t:=fun o ho=>ht o (aG _ ho)
  simp only[Vt] at h
  split at h
  ·split at h
   ·split at h
    ·rename_i hF1
     split at h
     ·rename_i hr
      simp only[aF,aS] at h
      rw[← h.1,W0 l _ _ _ _ hr h1,BM hF1 h0]
     ·cases h
    ·cases h
   ·cases h
  ·split at h
   ·rename_i hF1
    rw[W0 l _ _ _ _ h h1,BM hF1 h0]
   ·cases h
  ·cases h
structure OkA (P:Program) (n:Nat) (l:List Oper) (ops:List Oper) (M:Mem) (i k:Nat) (hs:List Nat) (A F0 F:ZS):Prop where
 le:Nat.ble i k=true:=by kernel_rfl
 fst:Is A (Vt P n ops M ((l.drop i).take (k-i)) hs F0)=some A:=by kernel_rfl
 snd:BC (Vt P n ops M ((l.drop i).take (k-i)) hs F0)=Wx (Vt P n ops M ((l.drop i).take (k-i)) hs F0):=by kernel_rfl
 thd:I8 A F ((l.drop i).take (k-i))=true:=by kernel_rfl
theorem Lj {P:Program} {n:Nat} {l ops:List Oper} {M:Mem} {i k:Nat} {hs:List Nat} {A F0 F:ZS} (h:OkA P n l ops M i k hs A F0 F) (ka:∀ s v,look s F=some v→look s F0=some v) :
  ∃ G es,Vt P n ops M ((l.drop i).take (k-i)) hs F0=some (G,es)∧(∀ p∈es,p.1=p.2)∧∀ t v,look t (A++F)=some v→look t G=some v:=by
 obtain⟨_,h1,h2,h3⟩:=h
 cases hr:Vt P n ops M ((l.drop i).take (k-i)) hs F0 with
 | none=>rw[hr] at h1;cases h1
 | some x =>
  rw[hr] at h1 h2
  refine⟨x.1,x.2,rfl,UN _ h2,fun t v ht=>?_⟩
  rw[FD] at ht
  cases hA:look t A with
  | some u=>rw[hA] at ht;simp only[aF] at ht;subst ht;exact K0 _ _ _ h1 t u hA
  | none =>
   rw[hA] at ht
   simp only at ht
   rw[W0 _ _ _ _ _ hr (fun o ho e=>?_)]
   ·exact ka t v ht
   ·have:=bF.1 h3 o ho
    rw[e] at this
    simp only[hA,ht] at this
    cases this
section
variable {P:Program} {n:Nat} {w0:Ctx} {ops:Array Oper} {Q:Exit→Act→World→Prop} {F:ZS} {M:Mem}
theorem MN (k:Nat) (hs:List Nat) (A F0:ZS) {i:Nat} (ka:∀ s v,look s F=some v→look s F0=some v) (hr:OkA P n ops.toList ops.toList M i k hs A F0 F) (h:TL P n w0 ops Q k (A++F) M):TL P n w0 ops Q i F0 M:=by
 intro a w hF hM
 obtain⟨G,es,hG,he,hs'⟩:=Lj hr ka
 rw[U5 ops.toList (aN hr.le)]
 exact Un _ _ _ _ _ _ a w hF hM hG he (fun a' ha'=>h a' w (ha'.sub hs') hM)
theorem Zc (k:Nat) (hs:List Nat) (A:ZS) {i:Nat} (hr:OkA P n ops.toList ops.toList M i k hs A F F) (h:TL P n w0 ops Q k (A++F) M):TL P n w0 ops Q i F M :=
 MN k hs A F (fun _ _ h=>h) hr h
theorem GM {t:Nat} {b:Bool} (ht:look t F=some (.bool b)):∀ s v,look s F=some v→look s ((t,.bool b)::F)=some v:=fun s v hv=>by
 by_cases e:t=s
 ·subst e;rw[YD];exact ht.symm.trans hv
 ·rw[YR _ _ e];exact hv
theorem XM (t:Nat) (b:Bool) (k:Nat) (hs1 hs2:List Nat) (A:Bool→ZS) {i:Nat} (ht:look t F=some (.bool b)) (h1:OkA P n ops.toList ops.toList M i k hs1 (A true) ((t,.bool true)::F) F)
  (h2:OkA P n ops.toList ops.toList M i k hs2 (A false) ((t,.bool false)::F) F) (h:TL P n w0 ops Q k (A b++F) M):TL P n w0 ops Q i F M:=by
 refine Yy t b ht (fun e=>?_) (fun e=>?_)
 ·subst e;exact MN k hs1 (A true) _ (GM ht) h1 h
 ·subst e;exact MN k hs2 (A false) _ (GM ht) h2 h
structure Ll (n:Nat) (ops:List Oper) (F:ZS) (i:Nat) (s:Sem Next) (d:Nat):Prop where
 at_:semAt ops F i=some (s,some d):=by kernel_rfl
 lt:Nat.blt d n=true:=by kernel_rfl
structure Nx (P:Program) (n:Nat) (ops:List Oper) (F:ZS) (i:Nat) (f:FuncId) (args:Array Value) (d:Nat):Prop where
 at_:UO P ops F i=some (f,args,some d):=by kernel_rfl
 lt:Nat.blt d n=true:=by kernel_rfl
theorem W1 {a:Act} {d:Nat} {v:Value} (hF:Fr n F a) (hd:Nat.blt d n=true):Fr n ((d,v)::F) (a.put (some d) v):=hF.put (aN hd) v
structure OkN (r:Option ((ZS×Mem)×List (Nat×Nat))) (F':ZS) (M':Mem):Prop where
 fst:r.map Prod.fst=some (F',M'):=by kernel_rfl
 snd:BC r=Wx r:=by kernel_rfl
theorem OkN.okW {r:Option ((ZS×Mem)×List (Nat×Nat))} {F':ZS} {M':Mem} (h:OkN r F' M'):∃ es,r=some ((F',M'),es)∧∀ p∈es,p.1=p.2:=by
 obtain⟨h1,h2⟩:=h
 cases r with
 | none=>cases h1
 | some x =>
  obtain⟨y,es⟩:=x
  simp only[cU,aF] at h1
  subst h1
  exact⟨es,rfl,UN _ h2⟩
theorem I2 (j:Nat) (F':Nat→ZS) (M':Nat→Mem) {i:Nat} (hr:∀ b,OkN (Su P n ops.toList F M j b i) (F' b) (M' b)) (h:∀ b,TL P n w0 ops Q (i+1) (F' b) (M' b)):TL P n w0 ops Q i F M:=by
 intro a w hF hM
 obtain⟨es,hG,he⟩:=(hr w.heap.size).okW
 unfold Su at hG
 split at hG
 ·rename_i s d hs
  obtain⟨o,h1,h2,h3,h4⟩:=QG hF hs
  rw[h1]
  refine XK h2 ?_
  unfold Oper.wp
  rw[h3]
  split at hG
  ·rename_i v m es' hm
   split at hG
   ·rename_i G' hp
    simp only[aF,aS] at hG
    obtain⟨⟨rfl,rfl⟩,rfl⟩:=hG
    obtain⟨w',py,hM'⟩:=VV s M w _ _ _ hM rfl hm he
    rw[py]
    subst h4
    exact h w.heap.size _ w' (KW hF hp) hM'
   ·cases hG
  ·rename_i m es' hm
   split at hG
   ·rename_i G' hp
    simp only[aF,aS] at hG
    obtain⟨⟨rfl,rfl⟩,rfl⟩:=hG
    obtain⟨w',py,hM'⟩:=VV s M w _ _ _ hM rfl hm he
    rw[py]
    subst h4
    exact h w.heap.size _ w' (KW hF hp) hM'
   ·cases hG
  ·cases hG
 ·cases hG
theorem ZA (d:Nat) (v:Nat→Value) (e:Nat→Ent) {i:Nat} (hr:∀ b,OkN (Su P n ops.toList F M 0 b i) ((d,v b)::F) (e b::M)) (h:∀ b,TL P n w0 ops Q (i+1) ((d,v b)::F) (e b::M)):TL P n w0 ops Q i F M :=
 I2 0 _ _ hr h
theorem Yp (j:Nat) (e:Ent) {i:Nat} (hr:∀ b,OkN (Su P n ops.toList F M j b i) F (M.set j e)) (h:TL P n w0 ops Q (i+1) F (M.set j e)):TL P n w0 ops Q i F M :=
 I2 j (fun _=>F) (fun _=>M.set j e) hr (fun _=>h)
theorem TL.c {α:Type} (d:Nat) (x:α) (e:α→Value) {i:Nat} {f:FuncId} {args:Array Value} (hc:∀ w,Sat w0 M w→Calls P f args w (Ret w (e x))) (hs:Nx P n ops.toList F i f args d)
  (h:∀ r,x=r→TL P n w0 ops Q (i+1) ((d,e r)::F) M):TL P n w0 ops Q i F M:=by
 intro a w hF hM
 obtain⟨o,h1,h2,h3,h4⟩:=JZ hF hs.at_
 rw[h1]
 refine XK h2 ?_
 unfold Oper.wp
 rw[h3 w]
 refine(hc w hM).mono fun e w' he=>?_
 obtain⟨rfl,hb⟩:=he
 simp only
 rw[h4]
 exact h x rfl _ w' (W1 hF hs.lt) (hM.later hb)
theorem TL.v (s:Sem Next) (d:Nat) (v:Value) {i:Nat} (hv:∀ w,Sat w0 M w→s.run P w=.ok (.value v) w) (hs:Ll n ops.toList F i s d) (h:TL P n w0 ops Q (i+1) ((d,v)::F) M):TL P n w0 ops Q i F M:=by
 intro a w hF hM
 obtain⟨o,h1,h2,h3,h4⟩:=QG hF hs.at_
 rw[h1]
 refine XK h2 ?_
 unfold Oper.wp
 rw[h3,hv w hM]
 simp only[Oper.upon]
 rw[h4]
 exact h _ w (W1 hF hs.lt) hM
theorem Zak {Γ:Type} (s:Sem Next) (d:Nat) (v:Γ→Value) (M':Γ→Mem) {i:Nat} (hv:∀ w,Sat w0 M w→∃ g w',s.run P w=.ok (.value (v g)) w'∧Sat w0 (M' g) w') (hs:Ll n ops.toList F i s d)
  (h:∀ g,TL P n w0 ops Q (i+1) ((d,v g)::F) (M' g)):TL P n w0 ops Q i F M:=by
 intro a w hF hM
 obtain⟨o,h1,h2,h3,h4⟩:=QG hF hs.at_
 rw[h1]
 refine XK h2 ?_
 unfold Oper.wp
 obtain⟨g,w',hr,hM'⟩:=hv w hM
 rw[h3,hr]
 simp only[Oper.upon]
 rw[h4]
 exact h g _ w' (W1 hF hs.lt) hM'
theorem TL.os {Γ:Type} (s:Sem Next) (d:Nat) (v:Γ→Value) (j:Nat) (e:Γ→Ent) {i:Nat} (hv:∀ w,Sat w0 M w→∃ g w',s.run P w=.ok (.value (v g)) w'∧Sat w0 (M.set j (e g)) w') (hs:Ll n ops.toList F i s d)
  (h:∀ g,TL P n w0 ops Q (i+1) ((d,v g)::F) (M.set j (e g))):TL P n w0 ops Q i F M:=Zak s d v (fun g=>M.set j (e g)) hv hs h
theorem TL.on {Γ:Type} (s:Sem Next) (d:Nat) (v:Γ→Value) (e:Γ→Ent) {i:Nat} (hv:∀ w,Sat w0 M w→∃ g w',s.run P w=.ok (.value (v g)) w'∧Sat w0 (e g::M) w') (hs:Ll n ops.toList F i s d)
  (h:∀ g,TL P n w0 ops Q (i+1) ((d,v g)::F) (e g::M)):TL P n w0 ops Q i F M:=Zak s d v (fun g=>e g::M) hv hs h
theorem KF {Γ:Type} (s:Sem Next) (j:Nat) (e:Ent) {i:Nat} (hv:∀ w,Sat w0 M w→∃ (_:Γ) (w':World),s.run P w=.ok .skip w'∧Sat w0 (M.set j e) w') (hs:semAt ops.toList F i=some (s,none))
  (h:TL P n w0 ops Q (i+1) F (M.set j e)):TL P n w0 ops Q i F M:=by
 intro a w hF hM
 obtain⟨o,h1,h2,h3,h4⟩:=QG hF hs
 rw[h1]
 refine XK h2 ?_
 unfold Oper.wp
 obtain⟨_,w',hr,hM'⟩:=hv w hM
 rw[h3,hr]
 simp only[Oper.upon]
 rw[h4]
 exact h _ w' (KW (dst:=none) (v:=undef) hF rfl) hM'
theorem Sat.given {w0:Ctx} {w:World} {Mp Mr:Mem} (h:Sat w0 (Mp++Mr) w):Sat ⟨w,XR Mp⟩ Mp w :=
 ⟨Chg.refl _ _,fun e he=>⟨(h.own e (cG _ he)).1,fun _ hb=>.inl ⟨e,he,hb⟩⟩,(cX.1 h.apart).1⟩
theorem Be {α Γ:Type} (k:Nat) (d:Nat) (x:α) (v:α→Γ→Value) (Mn:α→Γ→Mem) (Mp:Mem) {i:Nat} {f:FuncId} {args:Array Value}
  (he:M=Mp++M.drop k) (hc:∀ w,Sat ⟨w,XR Mp⟩ Mp w→Calls P f args w (JH ⟨w,XR Mp⟩ (v x) (Mn x))) (hs:Nx P n ops.toList F i f args d)
  (h:∀ r,x=r→∀ g,TL P n w0 ops Q (i+1) ((d,v r g)::F) (Mn r g++M.drop k)):TL P n w0 ops Q i F M:=by
 intro a w hF hM
 obtain⟨o,h1,h2,h3,h4⟩:=JZ hF hs.at_
 rw[h1]
 refine XK h2 ?_
 unfold Oper.wp
 rw[h3 w]
 refine(hc w (Sat.given (Mr:=M.drop k) (by rw[← he];exact hM))).mono fun e w' hq=>?_
 obtain⟨g,rfl,hb⟩:=hq
 simp only
 rw[h4]
 exact h x rfl g _ w' (W1 hF hs.lt) (Sat.call (by rw[← he];exact hM) hb)
theorem VI {α Γ:Type} (d:Nat) (x:α) (v:α→Γ→Value) (Mn:α→Γ→Mem) {i:Nat} {f:FuncId} {args:Array Value}
  (hc:∀ w,Sat w0 M w→Calls P f args w (JH (cx w) (v x) (Mn x))) (hs:Nx P n ops.toList F i f args d)
  (h:∀ r,x=r→∀ g,TL P n w0 ops Q (i+1) ((d,v r g)::F) (Mn r g++M)):TL P n w0 ops Q i F M:=by
 intro a w hF hM
 obtain⟨o,h1,h2,h3,h4⟩:=JZ hF hs.at_
 rw[h1]
 refine XK h2 ?_
 unfold Oper.wp
 rw[h3 w]
 refine(hc w hM).mono fun e w' hq=>?_
 obtain⟨g,rfl,h2⟩:=hq
 simp only
 rw[h4]
 refine h x rfl g _ w' (W1 hF hs.lt) (Sat.call (Mp:=[]) (Mr:=M) hM ?_)
 refine⟨⟨h2.chg.os,h2.chg.tape,h2.chg.output,h2.chg.size,fun k hk _=>h2.chg.block k hk (fun h=>h),h2.chg.drawn⟩,fun e he=>⟨(h2.own e he).1,fun b hb=>?_⟩,h2.apart⟩
 rcases(h2.own e he).2 b hb with h3|h3
 ·exact h3.elim
 ·exact .inr h3
theorem Zf {id:Nat} {y:Code} (h:TL P n w0 ops (Exit.then (y.wp P Q) Q) 0 F M):TC P n w0 Q (.seq (.region id ops false) y) F M:=TC.seq (TC.region h)
theorem Z1 {x y:Code} {i:Nat} (h:TC P n w0 (Exit.then (y.wp P Q) Q) x F M) (hi:Nat.ble ops.toList.length i=true:=by kernel_rfl):TL P n w0 ops (Exit.then ((Code.seq x y).wp P Q) Q) i F M:=Zb hi (TC.seq h)
theorem Zz {cp:Array Oper} {id:Nat} {y:Code} {i:Nat} (h:TL P n w0 cp (Exit.then (y.wp P Q) Q) 0 F M) (hi:Nat.ble ops.toList.length i=true:=by kernel_rfl):TL P n w0 ops (Exit.then ((Code.seq (.region id cp false) y).wp P Q) Q) i F M:=Zb hi (Zf h)
theorem Yg {y:Code} (h:TC P n w0 Q y F M):TC P n w0 (Exit.then (y.wp P Q) Q) .skip F M:=TC.skip (Z3 h)
theorem Yc {id:Nat} {y:Code} (h:TL P n w0 ops (Exit.then (y.wp P Q) Q) 0 F M):TC P n w0 (Exit.then ((Code.seq (.region id ops false) y).wp P Q) Q) .skip F M:=Yg (Zf h)
theorem YC {id:Nat} {y:Code} (h:TL P n w0 ops (Exit.then (y.wp P Q) Q) 0 F M):TE n w0 (Exit.then ((Code.seq (.region id ops false) y).wp P Q) Q) .normal F M:=Z3 (Zf h)
theorem Zo {K:Act→World→Prop} (h:TE n w0 Q .ret F M):TE n w0 (Exit.then K Q) .ret F M:=h
theorem ZL {id:Nat} (h:TE n w0 Q .ret F M):TE n w0 (Exit.inBlock id Q) .ret F M:=h
theorem ZT {id:Nat} {K:Act→World→Prop} (h:TE n w0 Q (.exit id) F M):TE n w0 (Exit.then K Q) (.exit id) F M:=h
theorem ZY {id:Nat} (h:TE n w0 Q .normal F M):TE n w0 (Exit.inBlock id Q) .normal F M:=h
theorem Xp {X:Type} (Fs:X→ZS) (Ms:X→Mem) (m:X→Nat) (I:X→Prop) {c:Code}
  (round:∀ x,I x→TC P n w0 (Exit.then (fun a w=>∃ y,I y∧m y<m x∧Fr n (Fs y) a∧Sat w0 (Ms y) w) Q) c (Fs x) (Ms x)) (x:X) (hx:I x) (hp:pick ((Fs x).map Prod.fst) F=some (Fs x)) (hs:(Ms x).Sublist M):TC P n w0 Q (.loop c) F M :=
 JG (Fs x) hp (Pv (Ms x) hs (TC.loop Fs Ms m I round x hx))
end
section
variable {P:Program} {n:Nat} {w0:Ctx} {ops:Array Oper} {Q:Act→Prop} {N:Nat} {F:ZS} {M:Mem}
theorem MO (k:Nat) (hs:List Nat) (A F0:ZS) {i:Nat} (ka:∀ s v,look s F=some v→look s F0=some v) (hr:OkA P n (ops.toList.take N) ops.toList M i k hs A F0 F) (h:TQ P n w0 ops Q N k (A++F) M):TQ P n w0 ops Q N i F0 M:=by
 intro a hF
 obtain⟨G,es,hG,he,hs'⟩:=Lj hr ka
 rw[U5 (ops.toList.take N) (aN hr.le)]
 exact VJ _ _ _ _ _ _ a hF hG he (fun a' ha'=>h a' (ha'.sub hs'))
theorem YY (k:Nat) (hs:List Nat) (A:ZS) {i:Nat} (hr:OkA P n (ops.toList.take N) ops.toList M i k hs A F F) (h:TQ P n w0 ops Q N k (A++F) M):TQ P n w0 ops Q N i F M :=
 MO k hs A F (fun _ _ h=>h) hr h
theorem Zal (t:Nat) (b:Bool) (k:Nat) (hs1 hs2:List Nat) (A:Bool→ZS) {i:Nat} (ht:look t F=some (.bool b)) (h1:OkA P n (ops.toList.take N) ops.toList M i k hs1 (A true) ((t,.bool true)::F) F)
  (h2:OkA P n (ops.toList.take N) ops.toList M i k hs2 (A false) ((t,.bool false)::F) F) (h:TQ P n w0 ops Q N k (A b++F) M):TQ P n w0 ops Q N i F M:=by
 refine KE t b ht (fun e=>?_) (fun e=>?_)
 ·subst e;exact MO k hs1 (A true) _ (GM ht) h1 h
 ·subst e;exact MO k hs2 (A false) _ (GM ht) h2 h
theorem TQ.c {α:Type} (d:Nat) (x:α) (e:α→Value) {i:Nat} {f:FuncId} {args:Array Value} (hc:∀ w,Sat w0 M w→Calls P f args w (Ret w (e x))) (hi:Nat.blt i N=true) (hs:Nx P n ops.toList F i f args d)
  (h:∀ r,x=r→TQ P n w0 ops Q N (i+1) ((d,e r)::F) M):TQ P n w0 ops Q N i F M:=by
 intro a hF
 obtain⟨o,h1,h2,h3,h4⟩:=JZ hF hs.at_
 obtain⟨r,h5,rfl⟩:=take_at hi h1
 rw[h5]
 unfold wpQuiet
 rw[if_pos h2]
 refine⟨e x,fun w hM=>?_,by rw[h4];exact h x rfl _ (W1 hF hs.lt)⟩
 unfold Oper.quietAt
 rw[h3 w]
 exact⟨rfl,(hc w hM).mono fun e w' he=>⟨he.1,hM.later he.2⟩⟩
theorem TQ.v (s:Sem Next) (d:Nat) (v:Value) {i:Nat} (hv:∀ w,Sat w0 M w→s.run P w=.ok (.value v) w) (hi:Nat.blt i N=true) (hs:Ll n ops.toList F i s d) (h:TQ P n w0 ops Q N (i+1) ((d,v)::F) M):TQ P n w0 ops Q N i F M:=by
 intro a hF
 obtain⟨o,h1,h2,h3,h4⟩:=QG hF hs.at_
 obtain⟨r,h5,rfl⟩:=take_at hi h1
 rw[h5]
 unfold wpQuiet
 rw[if_pos h2]
 refine⟨v,fun w hM=>?_,by rw[h4];exact h _ (W1 hF hs.lt)⟩
 unfold Oper.quietAt
 rw[h3,hv w hM]
 exact⟨rfl,rfl⟩
end
end Go.Eng
end
section
namespace Go.Sky
open Go Go.Eng Go.Proofs
def cmp_isNaN_int (x:Int):Bool :=
 x != x
theorem Gp (x:Int) (w:World):Calls Tryz.prog 180 #[.int .i64 x] w (Ret w (.bool (cmp_isNaN_int x))):=by
 exact Zp (vs:=[.i x]) (w:=w) Tryz.func180 rfl Tryz.ntmps180 rfl (Zf (Zc 1 [] [(2,.b false)] {} (Zz (Zc 4 [] [(2,.b (x != x))] {} (Zb rfl (TC.ret (TE.ret [] (.b (x != x)) {} (by unfold cmp_isNaN_int;refine eS (fun z=>(.b z:Value)) ?_;exact rfl))))))))
def cmp_Compare_int (x:Int) (y:Int):Int :=
 let r1:=cmp_isNaN_int x
 let r2:=cmp_isNaN_int y
 cond r1 (
  cond r2 (
   0) (
   (-1))) (
  cond r2 (
   1) (
   cond (decide (x<y)) (
    (-1)) (
    cond (decide (x>y)) (
     1) (
     0))))
theorem Y0 (x:Int) (y:Int) (w:World):Calls Tryz.prog 143 #[.int .i64 x,.int .i64 y] w (Ret w (.int .i64 (cmp_Compare_int x y))):=by
 refine Zp (vs:=[.i x,.i y]) (w:=w) Tryz.func143 rfl Tryz.ntmps143 rfl (Zf (Zc 1 [] [(4,.i 0)] {} (Zz (Zc 1 [] [(7,.i x)] {} (TL.c 8 (cmp_isNaN_int x) (fun r1=>.b r1) (fun w _=>Gp x w) {} (fun r1 hr1=>Zc 3 [] [(5,.b r1)] {} (Zz (Zc 1 [] [(9,.i y)] {} (TL.c 10 (cmp_isNaN_int y) (fun r2=>.b r2) (fun w _=>Gp y w) {} (fun r2 hr2=>Zc 3 [] [(6,.b r2)] {} (Z1 (Zf (Zc 1 [] [(11,.b r1)] {} (Zb rfl (TC.cond r1 rfl Kr (fun h1=>?_) (fun h1=>?_))))))))))))))))
 ·refine TC.seq (Zf (Zc 1 [] [(12,.b r2)] {} (Zb rfl (TC.cond r2 rfl Kr (fun h2=>?_) (fun h2=>?_)))))
  ·refine Zf (Zc 1 [] [(4,.i 0)] {} (Zb rfl (TC.ret (Zo (Zo ?_)))))
   exact TE.ret [] (.i 0) {} (by unfold cmp_Compare_int;refine eS (fun z=>(.i z:Value)) ?_;subst hr1 hr2;exact Zm h1 (Zm h2 (rfl)))
  ·exact Yc (Zc 1 [] [(4,.i (-1))] {} (Zb rfl (TC.ret (Zo (TE.ret [] (.i (-1)) {} (by unfold cmp_Compare_int;refine eS (fun z=>(.i z:Value)) ?_;subst hr1 hr2;exact Zm h1 (Ze h2 (rfl))))))))
 ·refine Yg (TC.seq (Zf (Zc 1 [] [(13,.b r2)] {} (Zb rfl (TC.cond r2 rfl Kr (fun h3=>?_) (fun h3=>?_))))))
  ·exact Zf (Zc 1 [] [(4,.i 1)] {} (Zb rfl (TC.ret (Zo (TE.ret [] (.i 1) {} (by unfold cmp_Compare_int;refine eS (fun z=>(.i z:Value)) ?_;subst hr1 hr2;exact Ze h1 (Zm h3 (rfl))))))))
  ·refine Yg (TC.seq (Zf (Zc 3 [] [(16,.b (decide (x<y)))] {} (Zb rfl (TC.cond (decide (x<y)) rfl Kr (fun h4=>?_) (fun h4=>?_))))))
   ·exact Zf (Zc 1 [] [(4,.i (-1))] {} (Zb rfl (TC.ret (Zo (TE.ret [] (.i (-1)) {} (by unfold cmp_Compare_int;refine eS (fun z=>(.i z:Value)) ?_;subst hr1 hr2;exact Ze h1 (Ze h3 (Zm h4 (rfl)))))))))
   ·refine Yg (TC.seq (Zf (Zc 3 [] [(19,.b (decide (x>y)))] {} (Zb rfl (TC.cond (decide (x>y)) rfl Kr (fun h5=>?_) (fun h5=>?_))))))
    ·exact Zf (Zc 1 [] [(4,.i 1)] {} (Zb rfl (TC.ret (Zo (TE.ret [] (.i 1) {} (by unfold cmp_Compare_int;refine eS (fun z=>(.i z:Value)) ?_;subst hr1 hr2;exact Ze h1 (Ze h3 (Ze h4 (Zm h5 (rfl))))))))))
    ·exact Yc (Zc 1 [] [(4,.i 0)] {} (Zb rfl (TC.ret (TE.ret [] (.i 0) {} (by unfold cmp_Compare_int;refine eS (fun z=>(.i z:Value)) ?_;subst hr1 hr2;exact Ze h1 (Ze h3 (Ze h4 (Ze h5 (rfl)))))))))
def K1:List Int→Nat→((Unit) ⊕ (Int))
 | [],_=>.inl ()
 | x::xs,k=>cond (x != 0) (
   .inr x) (
   K1 xs (k+1))
def Kq (vals:List Int):Int :=
 Sum.elim (fun _ =>
  0) (fun r=>r) (K1 vals 0)
theorem UT (A_vals:Option Addr) (y1:Nat) (vals:List Int) (w:World) (fj:Rd w 1 A_vals (vals.map ic)) (_hc_vals:vals.length≤y1):Calls Tryz.prog 142 #[.slice A_vals vals.length y1] w (Ret w (.int .i64 (Kq vals))):=by
 have lj:=fj.short;rw[aD] at lj
 refine Zp (vs:=[.slice A_vals vals.length y1]) (w:=w) Tryz.func142 rfl Tryz.ntmps142 rfl (Zf (Zc 1 [] [(2,.i 0)] {} (Zz (Zc 1 [] [(3,.i 0)] {} (Z1 (Zf (Zc 3 [] [(6,.slice A_vals vals.length y1),(7,.i (vals.length:Int)),(8,.i 0)] {} (Zb rfl ?_))))))))
 obtain⟨R1,hR⟩:∃ R,R=K1 vals 0:=⟨_,rfl⟩
 refine TC.cut (S:=Unit) (fun (_:Unit)=>[(3,.i 0)]) (fun (_:Unit)=>[]) (fun (_:Unit)=>R1=.inl ()) ?_ ?_
 ·refine TC.block (Xp (X:=Nat) (fun k=>[(3,.i 0),(6,.slice A_vals vals.length y1),(7,.i (vals.length:Int)),(8,.i (k:Int))]) (fun k=>[]) (fun k=>vals.length-k) (fun k=>k≤vals.length∧R1=K1 (vals.drop k) k) ?_ 0 ⟨aP _,hR⟩ Kr (sb 0))
  rintro k ⟨hk,hI⟩
  refine Zf (Zc 1 [] [(9,.b (decide ((k:Int)<(vals.length:Int))))] {} (Z1 (TC.cond (decide ((k:Int)<(vals.length:Int))) rfl Kr (fun h1=>?_) (fun h1=>?_))))
  ·have hlt:=ltN h1
   obtain⟨x,hx⟩:=elN hlt
   have hd:=drop_at hx
   refine Yg (TC.seq (TC.block (Zf (TL.v (sV (Instr.indexAt 22 (.slice A_vals vals.length y1) (.i (k:Int)))) 10 (.pointer (some (Ix A_vals (k*1)))) (fun w hM=>Zr (fj.sat hM) (by simp) Kr sd sd) {} (TL.v (sV (Instr.loadAt 3 (.pointer (some (Ix A_vals (k*1)))))) 11 (.i x) (fun w hM=>Zu (off:=0) (i:=k) (.i x) (fj.sat hM) (Z6 hx) Kr Kr) {} (Zc 3 [] [(5,.i x)] {} (Zz (Zc 3 [] [(14,.b (x != 0))] {} (Zb rfl (TC.cond (x != 0) rfl Kr (fun h2=>?_) (fun h2=>?_)))))))))))
   ·refine Zf (Zc 2 [] [(2,.i x)] {} (Zb rfl (TC.ret (ZL (Zo (Zo (ZL (Zo (Zo ?_)))))))))
    exact TE.ret [] (.i x) {} (by unfold Kq;refine eS (fun z=>(.i z:Value)) ?_;exact Xh (hR.symm.trans (hI.trans (by rw[hd];exact Zm h2 (rfl)))) rfl)
   ·have k9:=(QA h2)
    exact TC.skip (ZY (Z3 (TC.region (Zc 2 [] [(8,.i (w64 ((k:Int)+1)))] {} (Zw rfl (TE.rw 8 (.i (w64 ((k:Int)+1))) (.i ((k+1:Nat):Int)) Kr (ZD k (by omega)) (Z4 (x:=k) (k+1) ⟨by omega,hI.trans (by rw[hd];exact Ze h2 (rfl))⟩ (mN hlt) Kr (sb 0))))))))
  ·have hd:=Qb h1
   refine TC.exit (ZT (ZT (Z0 ?_)))
   exact TE.cut () (hI.trans (by rw[hd];exact rfl)) Kr (sb 0)
 ·intro _ hJ
  exact YC (Zc 2 [] [(2,.i 0)] {} (Zb rfl (TC.ret (TE.ret [] (.i 0) {} (by unfold Kq;refine eS (fun z=>(.i z:Value)) ?_;exact Q3 (hR.symm.trans hJ) (rfl))))))
end Go.Sky
end
section
namespace Go.Glue
open Go.ChangeShapes Go.WideShapes Go.ChangeAt Go.RowKit Go.Deep Go.Eng
def I9 (P:Program) (t:TypeId) {α:Type} (c:α→Array Value) (ok:World→α→Prop):Prop :=
 ∀ {H:Type} {enc:TypeId×Value→H} {W:World} {base:Nat} {sp:Nat→Bool} {hd:Bool} {fuel:Nat} {cs:List Value} {x:DataW H×List MemPlace},
  DataW.trod enc P W base sp hd fuel t cs=some x→(∀ n∈x.1.weights P t,n≤reachBytes)→∃ a,cs=(c a).toList∧ok W a
theorem Ld.w {P:Program} {t:TypeId} {α:Type} {c:α→Array Value} {ok:α→Prop} (h:Ld P t c ok):I9 P t c (fun _=>ok):=fun h1 _=>h h1
section
variable {H:Type} {enc:TypeId×Value→H} {P:Program} {W:World} {base b0:Nat} {sp:Nat→Bool} {hd:Bool} {t:TypeId} {v:Value} {d:DataW H} {p:List MemPlace}
end
section
variable {H:Type} {enc:TypeId×Value→H} {P:Program} {W:World} {base b0:Nat} {sp:Nat→Bool} {hd:Bool} {t:TypeId} {v:Value} {d:DataW H} {p:List MemPlace}
end
end Go.Glue
namespace Go.Sky
open Go Go.Eng Go.Glue
structure VD where
 (At:P)
 (Size NX NY:Int)
 (Heights:List Int)
deriving DecidableEq
def VD.zero:VD:=⟨⟨0,0⟩,0,0,0,[]⟩
def VD.ok (x:VD):Prop:=x.At.ok∧I64 x.Size∧I64 x.NX∧I64 x.NY∧(x.Heights.length<4611686018427387904∧∀ a∈x.Heights,I64 a)
structure KI where
 (At:P)
 (Size NX NY:Int)
 (Heights:Sl Int)
def KI.p (x:KI):VD:=⟨x.At,x.Size,x.NX,x.NY,x.Heights.l⟩
def KI.c (x:KI):Array Value:=#[.int .i64 x.At.X,.int .i64 x.At.Y,.int .i64 x.Size,.int .i64 x.NX,.int .i64 x.NY,.slice x.Heights.A x.Heights.l.length x.Heights.cap]
theorem KI.one (x:KI):x.c.toList.all Value.oneCell'=true:=rfl
structure UB where
 (Radar Time:Int)
 (Plots:List Zs)
deriving DecidableEq
def UB.zero:UB:=⟨0,0,[]⟩
def UB.ok (x:UB):Prop:=I64 x.Radar∧I64 x.Time∧(x.Plots.length<4611686018427387904∧∀ a∈x.Plots,a.ok)
structure Vx where
 (Radar Time:Int)
 (Plots:Sl Zs)
def Vx.p (x:Vx):UB:=⟨x.Radar,x.Time,x.Plots.l⟩
def Vx.c (x:Vx):Array Value:=#[.int .i64 x.Radar,.int .i64 x.Time,.slice x.Plots.A x.Plots.l.length x.Plots.cap]
theorem Vx.one (x:Vx):x.c.toList.all Value.oneCell'=true:=rfl
end Go.Sky
end
