/- Lemmas toward the given statement (part 17 of 20): RadLaw TFly Mm Na LaysPlot SortPlot Compact Nb Nc. Each theorem states its own conditions; nothing is assumed beyond them. -/
import Derived.Test.YtjggkpkehdnhiaaGreatDoorBp16
import Derived.Test.YtjggkpkehdnhiaaGreatDoorBp10
import Derived.Test.YtjggkpkehdnhiaaGreatDoorBp04
import Derived.Test.YtjggkpkehdnhiaaGreatDoorBp02
import Derived.Shelf.SlLaysF0
import Derived.Test.YtjggkpkehdnhiaaGreatDoorRows
import Derived.Test.YtjggkpkehdnhiaaGreatDoorBp05
set_option maxRecDepth 100000
section
namespace Go.Sky
open Go Go.Eng
theorem MA {n a b:Int}:Yd n a b=false→a≤n∧n≤b:=by
 unfold Yd
 intro h
 simp only[cH,decide_eq_false_iff_not] at h
 omega
theorem rin {n a b:Int} (h:a≤n∧n≤b):Yd n a b=false:=by
 unfold Yd
 simp only[cH,decide_eq_false_iff_not]
 omega
def PIn (p:P):Prop:=-1000000≤p.X∧p.X≤1000000 ∧ -1000000≤p.Y∧p.Y≤1000000
theorem CM {p:P} (h:Yj p=0):PIn p:=by
 unfold Yj at h
 unfold PIn
 cases hc:((((decide (p.X<(-1000000)))||(decide (p.X>1000000)))||(decide (p.Y<(-1000000))))||(decide (p.Y>1000000))) with
 | true=>rw[hc] at h;cases h
 | false =>
  simp only[cH,decide_eq_false_iff_not] at hc
  omega
structure MB (s:Zn):Prop where
 id:0≤s.ID∧s.ID≤255
 at_:PIn s.At
 reach:1≤s.Reach∧s.Reach≤1000000
 rerr:1≤s.RangeError∧s.RangeError≤10000
 aerr:1≤s.AzimuthError∧s.AzimuthError≤100
theorem Hl {a:Int} (h:(a != 0)=false):a=0:=by simpa using h
theorem DF {s:Zn} (h:Y6 s=0):MB s:=by
 unfold Y6 at h
 simp only at h
 cases h1:Yd s.ID 0 255 <;> rw[h1] at h <;> simp only[cond_true,cond_false] at h
 case true=>cases h
 cases h2:(Yj s.At != 0) <;> rw[h2] at h <;> simp only[cond_true,cond_false] at h
 case true=>cases h
 cases h3:Yd s.Reach 1 1000000 <;> rw[h3] at h <;> simp only[cond_true,cond_false] at h
 case true=>cases h
 cases h4:Yd s.RangeError 1 10000 <;> rw[h4] at h <;> simp only[cond_true,cond_false] at h
 case true=>cases h
 cases h5:Yd s.AzimuthError 1 100 <;> rw[h5] at h <;> simp only[cond_true,cond_false] at h
 case true=>cases h
 exact⟨MA h1,CM (Hl h2),MA h3,MA h4,MA h5⟩
structure OO (t:Zj):Prop where
 time:0≤t.Time∧t.Time≤200000
 at_:PIn t.At
 height:0≤t.Height∧t.Height≤60000
 code:-1≤t.Code∧t.Code≤4095
theorem EZ {t:Zj} (h:ZG t=0):OO t:=by
 unfold ZG at h
 simp only at h
 cases h1:Yd t.Time 0 200000 <;> rw[h1] at h <;> simp only[cond_true,cond_false] at h
 case true=>cases h
 cases h2:(Yj t.At != 0) <;> rw[h2] at h <;> simp only[cond_true,cond_false] at h
 case true=>cases h
 cases h3:Yd t.Height 0 60000 <;> rw[h3] at h <;> simp only[cond_true,cond_false] at h
 case true=>cases h
 cases h4:Yd t.Code (-1) 4095 <;> rw[h4] at h <;> simp only[cond_true,cond_false] at h
 case true=>cases h
 exact⟨MA h1,CM (Hl h2),MA h3,MA h4⟩
theorem GA {x n:Int} (h:-n≤x∧x≤n):0≤x*x∧x*x≤n*n:=⟨Vf x,Re h.1 h.2⟩
theorem GU {p q:P} (hp:PIn p) (hq:PIn q):ZN p q=(p.X-q.X)*(p.X-q.X)+(p.Y-q.Y)*(p.Y-q.Y)∧(p.X-q.X)*(p.X-q.X)+(p.Y-q.Y)*(p.Y-q.Y)≤8000000000000:=by
 unfold PIn at hp hq
 have a:=GA (x:=p.X-q.X) (n:=2000000) (by omega)
 have b:=GA (x:=p.Y-q.Y) (n:=2000000) (by omega)
 unfold ZN J3 UC
 simp only
 rw[Zt (x:=p.X-q.X) (by omega),Zt (x:=p.Y-q.Y) (by omega),Zt (x:=(p.X-q.X)*(p.X-q.X)) (by omega),Zt (x:=(p.Y-q.Y)*(p.Y-q.Y)) (by omega),Zt (by omega)]
 exact⟨rfl,by omega⟩
def sqr (a b:P):Int:=w64 ((w64 ((w64 (a.X-b.X))*(w64 (a.X-b.X))))+(w64 ((w64 (a.Y-b.Y))*(w64 (a.Y-b.Y)))))
theorem MC {p q:P} (hp:PIn p) (hq:PIn q):sqr p q=(p.X-q.X)*(p.X-q.X)+(p.Y-q.Y)*(p.Y-q.Y):=by
 unfold PIn at hp hq
 have a:=GA (x:=p.X-q.X) (n:=2000000) (by omega)
 have b:=GA (x:=p.Y-q.Y) (n:=2000000) (by omega)
 unfold sqr
 rw[Zt (x:=p.X-q.X) (by omega),Zt (x:=p.Y-q.Y) (by omega),Zt (x:=(p.X-q.X)*(p.X-q.X)) (by omega),Zt (x:=(p.Y-q.Y)*(p.Y-q.Y)) (by omega),Zt (by omega)]
theorem MD (n:Int) (hn:n≤8000000000000):∀ (j:Nat) (a b:Int),(0≤a∧a≤b∧b≤3037000499∧b-a<2 ^ j)→a*a≤n→n<(b+1)*(b+1)→∃ R,Qu n (j+1) a b=some R∧0≤R∧R*R≤n∧n<(R+1)*(R+1)
 | 0,a,b,h,h5,h6=>by
  have e:(2:Int) ^ 0=1:=rfl
  have hab:a=b:=by omega
  exact⟨a,by rw[Qu,decide_eq_false (by omega)];rfl,h.1,h5,by rw[hab];exact h6⟩
 | j+1,a,b,h,h5,h6=>by
  have e:(2:Int) ^ (j+1)=2*2 ^ j:=by rw[Int.pow_succ];omega
  by_cases hk:a<b
  ·have w1:w64 (w64 (b-a)+1)=b-a+1:=by rw[Zt (x:=b-a) (by omega),Zt (by omega)]
   have d1:(b-a+1).tdiv 2=(b-a+1)/2:=dB (by omega)
   have w2:w64 ((w64 (w64 (b-a)+1)).tdiv 2)=(b-a+1)/2:=by rw[w1,d1,Zt (by omega)]
   have w3:w64 (a+w64 ((w64 (w64 (b-a)+1)).tdiv 2))=a+(b-a+1)/2:=by rw[w2,Zt (by omega)]
   have m1:=GA (x:=a+(b-a+1)/2) (n:=3037000499) (by omega)
   rw[Qu,decide_eq_true hk]
   simp only[cond_true,w3]
   rw[Zt (x:=(a+(b-a+1)/2)*(a+(b-a+1)/2)) (by omega)]
   by_cases hc:(a+(b-a+1)/2)*(a+(b-a+1)/2)≤n
   ·rw[decide_eq_true hc,cond_true]
    exact MD n hn j _ b (by omega) hc h6
   ·rw[decide_eq_false hc,cond_false,Zt (by omega)]
    exact MD n hn j a _ (by omega) h5 (by rw[show a+(b-a+1)/2-1+1=a+(b-a+1)/2 by omega];omega)
  ·have hab:a=b:=by omega
   exact⟨a,by rw[Qu,decide_eq_false hk];rfl,h.1,h5,by rw[hab];exact h6⟩
theorem ME {n:Int} (h:0≤n∧n≤8000000000000):0≤Qv n∧Qv n*Qv n≤n∧n<(Qv n+1)*(Qv n+1):=by
 by_cases h0:n≤0
 ·have e:Qv n=0:=by unfold Qv;rw[decide_eq_true h0];rfl
  rw[e];omega
 ·obtain⟨R,h1,h2⟩:=MD n h.2 33 0 3037000499 (by decide) (by omega) (by omega)
  have e:Qv n=R:=by unfold Qv YB;rw[decide_eq_false h0,cond_false,h1];rfl
  rw[e];exact h2
theorem OP (p q:P):(QY p q).1=Qv (ZN p q):=by
 unfold QY
 simp only
 cases decide (w64 (Qv (ZN p q)*Qv (ZN p q))<ZN p q) <;> rfl
theorem OQ {s:Zn} {far:Int} (hs:MB s) (hf:0≤far∧far≤2000000) (h:Y6 s=0):(Jq s far).1=s.RangeError + -(-(far*s.AzimuthError)/651) + -(-far/23170)+2∧0≤far*s.AzimuthError:=by
 have hm:0≤far*s.AzimuthError∧far*s.AzimuthError≤200000000:=by
  have a:=hs.aerr
  exact⟨aV hf.1 (by omega),dN (bP hf.2 a.2 (by omega) (by decide)) (by decide)⟩
 have r:=hs.rerr
 refine⟨?_,hm.1⟩
 unfold Jq
 simp only
 rw[h,rin (show (0:Int)≤far∧far≤2000000 from hf)]
 simp only[bne_self_eq_false,cond_false]
 rw[Zt (x:=far*s.AzimuthError) (by omega),VW (by decide) (by omega),VW (by decide) (by omega)]
 simp only
 rw[Zt (x:=s.RangeError + -(-(far*s.AzimuthError)/651)) (by omega),Zt (x:=s.RangeError + -(-(far*s.AzimuthError)/651) + -(-far/23170)) (by omega),Zt (by omega)]
theorem GV (n:Int):-8192≤n-16384*Qd n∧n-16384*Qd n≤8192:=by unfold Qd;split <;> omega
theorem OR {g:Nat} {p:Int} (hp:0≤p∧p≤2000000):JF g p=(⟨Qd (p*sn g),Qd (p*cs g)⟩,0):=by
 have a:=Ui (FU g) (b:=p) (by omega)
 have b:=Ui (FV g) (b:=p) (by omega)
 unfold JF
 simp only
 rw[M4,M5,decide_eq_false (show ¬ p<0 by omega),decide_eq_false (show ¬ p>2000000 by omega)]
 simp only[Bool.or_self,cond_false]
 rw[Zt (by rw[dS];omega),Zt (by rw[dS];omega)]
theorem Ia {g:Nat} {p:Int} (hp:0≤p∧p≤2000000):(-2000002≤Qd (p*sn g)∧Qd (p*sn g)≤2000002)∧(-2000002≤Qd (p*cs g)∧Qd (p*cs g)≤2000002):=by
 have a:=Ui (FU g) (b:=p) (by omega)
 have b:=Ui (FV g) (b:=p) (by omega)
 rw[dS] at a b
 have c:=GV (p*sn g)
 have d:=GV (p*cs g)
 omega
theorem B9 {s:Zn} {p:Zs} (h:(Yb s p).2=0):MB s∧(0≤p.Range∧p.Range≤2000000)∧(0≤p.Azimuth∧p.Azimuth≤4095)∧∃ vx vy:Int,vx=Qd (p.Range*sn p.Azimuth.toNat)∧vy=Qd (p.Range*cs p.Azimuth.toNat) ∧
  (Yb s p).1.At=⟨s.At.X+vx,s.At.Y+vy⟩∧PIn (Yb s p).1.At∧(Yb s p).1.Error=s.RangeError + -(-(p.Range*s.AzimuthError)/651) + -(-p.Range/23170)+2∧(Yb s p).1.Error≤1000000 ∧
  (Yb s p).1.Time=p.Time∧(Yb s p).1.Height=p.Height∧(Yb s p).1.Code=p.Code:=by
 unfold Yb at h ⊢
 simp only at h ⊢
 cases h1:(Y6 s != 0) <;> rw[h1] at h <;> simp only[cond_true,cond_false] at h ⊢
 case true=>rw[h] at h1;cases h1
 cases h2:(Ym p != 0) <;> rw[h2] at h <;> simp only[cond_true,cond_false] at h ⊢
 case true=>rw[h] at h2;cases h2
 cases h3:(p.Radar != s.ID) <;> rw[h3] at h <;> simp only[cond_true,cond_false] at h ⊢
 case true=>cases h
 have hs:=DF (Hl h1)
 have hp:(0≤p.Range∧p.Range≤2000000)∧(0≤p.Azimuth∧p.Azimuth≤4095):=by
  have q:=Hl h2
  unfold Ym at q
  simp only at q
  cases g1:Yd p.Radar 0 255 <;> rw[g1] at q <;> simp only[cond_true,cond_false] at q
  case true=>cases q
  cases g2:Yd p.Time 0 200000 <;> rw[g2] at q <;> simp only[cond_true,cond_false] at q
  case true=>cases q
  cases g3:Yd p.Range 0 2000000 <;> rw[g3] at q <;> simp only[cond_true,cond_false] at q
  case true=>cases q
  cases g4:Yd p.Azimuth 0 4095 <;> rw[g4] at q <;> simp only[cond_true,cond_false] at q
  case true=>cases q
  exact⟨MA g3,MA g4⟩
 have hz:(p.Azimuth.toNat:Int)=p.Azimuth:=bN hp.2.1
 have hv:=OR (g:=p.Azimuth.toNat) hp.1
 rw[hz] at hv
 rw[hv] at h ⊢
 have hb:=Ia (g:=p.Azimuth.toNat) hp.1
 have ha:=hs.at_
 have he:=(OQ hs hp.1 (Hl h1)).1
 unfold PIn at ha
 simp only at h ⊢
 have dq:Jr s.At ⟨Qd (p.Range*sn p.Azimuth.toNat),Qd (p.Range*cs p.Azimuth.toNat)⟩=⟨s.At.X+Qd (p.Range*sn p.Azimuth.toNat),s.At.Y+Qd (p.Range*cs p.Azimuth.toNat)⟩:=by
  unfold Jr
  simp only
  rw[Zt (by omega),Zt (by omega)]
 rw[dq] at h ⊢
 cases h4:((Yj ⟨s.At.X+Qd (p.Range*sn p.Azimuth.toNat),s.At.Y+Qd (p.Range*cs p.Azimuth.toNat)⟩ != 0)||(decide ((Jq s p.Range).1>1000000))) <;> rw[h4] at h <;> simp only[cond_true,cond_false] at h ⊢
 case true=>cases h
 rw[cH] at h4
 have h5:=of_decide_eq_false h4.2
 exact⟨hs,hp.1,hp.2,_,_,rfl,rfl,rfl,CM (Hl h4.1),he,by omega,by first|trivial|simp⟩
theorem VA {s:Zn} {t:Zj} (h:(ZK s t).2=0):Y6 s=0∧MB s∧OO t∧ZX s.At t.At s.Reach=true ∧
  (ZK s t).1=⟨s.ID,t.Time,Qv (ZN s.At t.At),if s.At=t.At then 0 else (ofF (J3 t.At s.At)).1,t.Height,t.Code⟩:=by
 unfold ZK at h ⊢
 simp only at h ⊢
 cases h1:(Y6 s != 0) <;> rw[h1] at h <;> simp only[cond_true,cond_false] at h ⊢
 case true=>rw[h] at h1;cases h1
 cases h2:(ZG t != 0) <;> rw[h2] at h <;> simp only[cond_true,cond_false] at h ⊢
 case true=>rw[h] at h2;cases h2
 cases h3:ZX s.At t.At s.Reach <;> rw[h3] at h <;> simp only[eF,cD,cond_true,cond_false] at h ⊢
 ·cases h
 refine⟨Hl h1,DF (Hl h1),EZ (Hl h2),by first|rfl|trivial,?_⟩
 rw[OP,P.eqb_eq]
 by_cases he:s.At=t.At
 ·rw[decide_eq_true he,if_pos he];rfl
 ·rw[decide_eq_false he,if_neg he];rfl
theorem TS {v:P} (hv:Ul v) (h0:¬ (v.X=0∧v.Y=0)):(0≤(ofF v).1∧(ofF v).1<4096)∧Uy (ofF v).1.toNat v.X v.Y:=by
 obtain⟨h1,h2⟩:=B8 h0
 obtain⟨n1,n2⟩:=Rf h1 h2
 unfold Ul at hv
 unfold ofF
 rw[if_neg (by omega),if_neg h0]
 simp only
 by_cases c:cs (W7 v.X v.Y)*v.X-sn (W7 v.X v.Y)*v.Y≤v.Y*sn (W7 v.X v.Y+1)-v.X*cs (W7 v.X v.Y+1)
 ·rw[if_pos c,aO]
  exact⟨by omega,n1 c⟩
 ·rw[if_neg c,aO]
  have n:=n2 c
  refine⟨by omega,?_⟩
  unfold Uy at n ⊢
  rw[Hf,Hg];exact n
theorem Zaf (k:Nat):sn (k+4096)=sn k:=by unfold sn;rw[Nat.add_mod_right]
theorem Zag (k:Nat):cs (k+4096)=cs k:=by unfold cs;rw[show (k+4096+1024)%4096=(k+1024)%4096 by omega]
theorem CN {s:Zn} {t:Zj} {p:Zs} {u:Int} (hs:(ZK s t).2=0) (hne:s.At≠t.At) (hr:p.Range-(ZK s t).1.Range≤s.RangeError-1∧(ZK s t).1.Range-p.Range≤s.RangeError-1)
  (hu:1-s.AzimuthError≤u∧u≤s.AzimuthError-1) (ha:p.Azimuth=((ZK s t).1.Azimuth+u+4096)%4096) (hx:(Yb s p).2=0) :
  sqr (Yb s p).1.At t.At≤(Yb s p).1.Error*(Yb s p).1.Error:=by
 obtain⟨_,hS,hT,hw,hp⟩:=VA hs
 rw[hp] at hr ha
 simp only[if_neg hne] at hr ha
 obtain⟨_,h1,h2,vx,vy,e1,e2,e3,e4,e5,e6,_⟩:=B9 hx
 rw[MC e4 hT.at_,e3]
 simp only
 have q:=GU hS.at_ hT.at_
 have a1:=hS.at_
 have a2:=hT.at_
 unfold PIn at a1 a2
 have hX:J3 t.At s.At=⟨t.At.X-s.At.X,t.At.Y-s.At.Y⟩:=by unfold J3;rw[Zt (by omega),Zt (by omega)]
 have h0:¬ (t.At.X-s.At.X=0∧t.At.Y-s.At.Y=0):=by
  rintro⟨z1,z2⟩
  refine hne ?_
  have b1:s.At.X=t.At.X:=by omega
  have b2:s.At.Y=t.At.Y:=by omega
  rcases hsA:s.At with ⟨sx,sy⟩
  rcases htA:t.At with ⟨tx,ty⟩
  rw[hsA,htA] at b1 b2
  simp only at b1 b2
  rw[b1,b2]
 obtain⟨o1,o2⟩:=TS (v:=⟨t.At.X-s.At.X,t.At.Y-s.At.Y⟩) (by unfold Ul;simp only;omega) h0
 rw[hX] at ha
 simp only at o2
 generalize (ofF ⟨t.At.X-s.At.X,t.At.Y-s.At.Y⟩).1=H at o1 o2 ha
 rw[q.1] at hr
 have sqs:(s.At.X-t.At.X)*(s.At.X-t.At.X)+(s.At.Y-t.At.Y)*(s.At.Y-t.At.Y)=(t.At.X-s.At.X)*(t.At.X-s.At.X)+(t.At.Y-s.At.Y)*(t.At.Y-s.At.Y):=by grind
 have n0:=Vf (s.At.X-t.At.X)
 have n1:=Vf (s.At.Y-t.At.Y)
 obtain⟨r0,r1,r2⟩:=ME (n:=(s.At.X-t.At.X)*(s.At.X-t.At.X)+(s.At.Y-t.At.Y)*(s.At.Y-t.At.Y)) ⟨by omega,q.2⟩
 generalize Qv ((s.At.X-t.At.X)*(s.At.X-t.At.X)+(s.At.Y-t.At.Y)*(s.At.Y-t.At.Y))=r at r0 r1 r2 hr
 rw[sqs] at r1 r2
 have neg:(s.At.X+vx-t.At.X)*(s.At.X+vx-t.At.X)+(s.At.Y+vy-t.At.Y)*(s.At.Y+vy-t.At.Y)=(t.At.X-s.At.X-vx)*(t.At.X-s.At.X-vx)+(t.At.Y-s.At.Y-vy)*(t.At.Y-s.At.Y-vy):=by grind
 rw[neg]
 have b1:=GV (p.Range*sn p.Azimuth.toNat)
 have b2:=GV (p.Range*cs p.Azimuth.toNat)
 rw[← e1] at b1
 rw[← e2] at b2
 have aerr:=hS.aerr
 have hm:=aV h1.1 (show (0:Int)≤s.AzimuthError by omega)
 have he:651*(s.RangeError+2)+p.Range*s.AzimuthError≤651*(Yb s p).1.Error:=by
  rw[e5]
  generalize p.Range*s.AzimuthError=m at *
  omega
 by_cases hu0:0≤u
 ·refine DC (h:=H.toNat) (g:=H.toNat+u.toNat) (j:=u.toNat) (r:=r) (p:=p.Range) (A:=s.AzimuthError) (R:=s.RangeError) o2 r0 r1 r2 h1.1 hr.1 hr.2 (.inl rfl) (by omega) aerr.2 ?_ ?_ he
  ·rw[← Hf (H.toNat+u.toNat),show (H.toNat+u.toNat)%4096=p.Azimuth.toNat by omega];exact b1
  ·rw[← Hg (H.toNat+u.toNat),show (H.toNat+u.toNat)%4096=p.Azimuth.toNat by omega];exact b2
 ·have o3:Uy (H.toNat+4096) (t.At.X-s.At.X) (t.At.Y-s.At.Y):=by unfold Uy at o2 ⊢;rw[Zaf,Zag];exact o2
  refine DC (h:=H.toNat+4096) (g:=(H+4096+u).toNat) (j:=(-u).toNat) (r:=r) (p:=p.Range) (A:=s.AzimuthError) (R:=s.RangeError) o3 r0 r1 r2 h1.1 hr.1 hr.2 (.inr (by omega)) (by omega) aerr.2 ?_ ?_ he
  ·rw[← Hf (H+4096+u).toNat,show (H+4096+u).toNat%4096=p.Azimuth.toNat by omega];exact b1
  ·rw[← Hg (H+4096+u).toNat,show (H+4096+u).toNat%4096=p.Azimuth.toNat by omega];exact b2
theorem Rh {p q:P} {d:Int} (hp:PIn p) (hq:PIn q) (hd:1≤d∧d≤1000000) (h:ZX p q d=true):(p.X-q.X)*(p.X-q.X)+(p.Y-q.Y)*(p.Y-q.Y)≤d*d:=by
 have s:=GA (x:=d) (n:=1000000) (by omega)
 unfold ZX at h
 simp only at h
 rw[(GU hp hq).1,Zt (x:=d*d) (by omega)] at h
 cases h1:((decide (d≥0))&&(decide (d≤8000000))) with
 | false=>rw[h1] at h;simp at h
 | true =>
  rw[h1] at h
  simpa using h
theorem DG {s:Zn} {t:Zj} (h:(ZK s t).2=0):0≤(ZK s t).1.Range∧(ZK s t).1.Range≤1000000:=by
 obtain⟨_,hS,hT,hw,hp⟩:=VA h
 rw[hp]
 simp only
 have q:=GU hS.at_ hT.at_
 have b:=Rh hS.at_ hT.at_ hS.reach hw
 have n0:=Vf (s.At.X-t.At.X)
 have n1:=Vf (s.At.Y-t.At.Y)
 rw[q.1]
 obtain⟨r0,r1,_⟩:=ME (n:=(s.At.X-t.At.X)*(s.At.X-t.At.X)+(s.At.Y-t.At.Y)*(s.At.Y-t.At.Y)) ⟨by omega,q.2⟩
 have:=(TR (y:=s.Reach) (by have:=hS.reach;omega) (dN r1 b)).2
 have:=hS.reach
 omega
theorem Gm {s:Zn} {t:Zj} (h:(ZK s t).2=0):0≤(ZK s t).1.Azimuth∧(ZK s t).1.Azimuth≤4095:=by
 obtain⟨_,hS,hT,hw,hp⟩:=VA h
 rw[hp]
 simp only
 by_cases he:s.At=t.At
 ·rw[if_pos he];decide
 rw[if_neg he]
 have a1:=hS.at_
 have a2:=hT.at_
 unfold PIn at a1 a2
 have hX:J3 t.At s.At=⟨t.At.X-s.At.X,t.At.Y-s.At.Y⟩:=by unfold J3;rw[Zt (by omega),Zt (by omega)]
 by_cases h0:t.At.X-s.At.X=0∧t.At.Y-s.At.Y=0
 ·rw[hX]
  have z:=Ut (v:=⟨t.At.X-s.At.X,t.At.Y-s.At.Y⟩) (by unfold Ul;simp only;omega) h0
  rw[← z.1];decide
 ·have:=(TS (v:=⟨t.At.X-s.At.X,t.At.Y-s.At.Y⟩) (by unfold Ul;simp only;omega) h0).1
  rw[hX];omega
theorem WA {s:Zn} {t:Zj} (h:(ZK s t).2=0):Ym (ZK s t).1=0∧(ZK s t).1.Radar=s.ID:=by
 have a:=DG h
 have b:=Gm h
 obtain⟨_,hS,hT,hw,hp⟩:=VA h
 have e1:(ZK s t).1.Radar=s.ID:=by rw[hp]
 have e2:(ZK s t).1.Time=t.Time:=by rw[hp]
 have e3:(ZK s t).1.Height=t.Height:=by rw[hp]
 have e4:(ZK s t).1.Code=t.Code:=by rw[hp]
 refine⟨?_,e1⟩
 unfold Ym
 simp only
 rw[e1,e2,e3,e4,rin (show (0:Int)≤s.ID∧s.ID≤255 from hS.id),rin (show (0:Int)≤t.Time∧t.Time≤200000 from hT.time),rin (show (0:Int)≤(ZK s t).1.Range∧(ZK s t).1.Range≤2000000 by omega),rin (show (0:Int)≤(ZK s t).1.Azimuth∧(ZK s t).1.Azimuth≤4095 by omega),rin (show (0:Int)≤t.Height∧t.Height≤60000 from hT.height),rin (show (-1:Int)≤t.Code∧t.Code≤4095 from hT.code)]
 rfl
theorem SU {s:Zn} {t:Zj} (hs:(ZK s t).2=0) (he:s.At=t.At) (hx:(Yb s (ZK s t).1).2=0):sqr (Yb s (ZK s t).1).1.At t.At≤(Yb s (ZK s t).1).1.Error*(Yb s (ZK s t).1).1.Error:=by
 obtain⟨_,hS,hT,hw,hp⟩:=VA hs
 obtain⟨_,h1,h2,vx,vy,e1,e2,e3,e4,e5,e6,_⟩:=B9 hx
 have hr:(ZK s t).1.Range=0:=by
  rw[hp]
  simp only
  rw[(GU hS.at_ hT.at_).1,he]
  have z:(t.At.X-t.At.X)*(t.At.X-t.At.X)+(t.At.Y-t.At.Y)*(t.At.Y-t.At.Y)=0:=by rw[dD,dD];rfl
  rw[z];rfl
 rw[hr,Int.zero_mul] at e1 e2
 have v0:Qd 0=0:=rfl
 rw[v0] at e1 e2
 rw[MC e4 hT.at_,e3,he,e1,e2]
 simp only[Int.add_zero,dD]
 exact Vf _
theorem Ac {s:Zn} {p:Zs} (hx:(Yb s p).2=0):0≤(Yb s p).1.Error∧(Yb s p).1.Error≤1000000:=by
 obtain⟨hS,h1,_,_,_,_,_,_,_,e5,e6,_⟩:=B9 hx
 have a:=hS.aerr
 have b:=hS.rerr
 have m:=aV h1.1 (show (0:Int)≤s.AzimuthError by omega)
 exact⟨by rw[e5];omega,e6⟩
end Go.Sky
end
section
namespace Go.Sky
open Go Go.Eng
theorem SV {s:Zn} {t:Zj} (h1:Y6 s=0) (h2:ZG t=0) (h3:ZX s.At t.At s.Reach=true):(ZK s t).2=0:=by
 unfold ZK
 simp only
 rw[h1,h2,h3]
 simp only[bne_self_eq_false,cond_false,cD]
 cases (P.eqb s.At t.At) <;> rfl
theorem HH {p:P} (h:PIn p):Yj p=0:=by
 unfold PIn at h
 unfold Yj
 rw[decide_eq_false (show ¬ p.X < -1000000 by omega),decide_eq_false (show ¬ p.X>1000000 by omega),decide_eq_false (show ¬ p.Y < -1000000 by omega),decide_eq_false (show ¬ p.Y>1000000 by omega)];rfl
theorem CO {f:Zq} (h:Jy f) {t:Int} (ht:0≤t∧t≤200):ZG (JQ f t)=0:=by
 have p:=G5 h ht
 have hh:=h.h;have hc:=h.c
 unfold ZG JQ
 simp only
 rw[p.1,rin (n:=t) (by omega),rin (n:=f.height) (by omega),rin (n:=f.code) (by omega),rin (n:=0) (by decide),HH (by unfold PIn;simp only;omega)]
 rfl
theorem CP {p q:P} (hp:PIn p) (hq:PIn q) {d X Y:Int} (hd:0≤d∧d≤1000000) (hx:-X≤p.X-q.X∧p.X-q.X≤X) (hy:-Y≤p.Y-q.Y∧p.Y-q.Y≤Y) (h:X*X+Y*Y≤d*d):ZX p q d=true:=by
 have a:=GA hx
 have b:=GA hy
 have hdd:0≤d*d∧d*d≤1000000000000:=by
  have:=GA (x:=d) (n:=1000000) (by omega);omega
 unfold ZX
 simp only
 rw[decide_eq_true (show d≥0 by omega),decide_eq_true (show d≤8000000 by omega),Bool.and_true,cond_true,(GU hp hq).1,Zt (by omega)]
 exact decide_eq_true (by omega)
def Vg:Zn:=⟨1,⟨-20000,0⟩,400000,50,2⟩
theorem SX {s:Zn} {p:Zs} (h1:Y6 s=0) (h2:Ym p=0) (h3:p.Radar=s.ID) (hr:0≤p.Range∧p.Range≤400000) (ha:0≤p.Azimuth∧p.Azimuth≤4095) (hx:-100000≤s.At.X∧s.At.X≤100000) (hy:-100000≤s.At.Y∧s.At.Y≤100000):(Yb s p).2=0:=by
 have hs:=DF h1
 have hz:(p.Azimuth.toNat:Int)=p.Azimuth:=bN ha.1
 have hv:=OR (g:=p.Azimuth.toNat) (p:=p.Range) (by omega)
 rw[hz] at hv
 have a:=G4 (A:=16384) (FU p.Azimuth.toNat) hr
 have b:=G4 (A:=16384) (FV p.Azimuth.toNat) hr
 rw[dS _ p.Range] at a b
 have c:=GV (p.Range*sn p.Azimuth.toNat)
 have d:=GV (p.Range*cs p.Azimuth.toNat)
 have e:=OQ hs (far:=p.Range) (by omega) h1
 have re:=hs.rerr;have ae:=hs.aerr
 have m:p.Range*s.AzimuthError≤400000*100:=bP hr.2 ae.2 (by omega) (by decide)
 unfold Yb
 simp only
 rw[h1,h2,h3,hv]
 simp only[bne_self_eq_false,cond_false]
 have dq:Jr s.At ⟨Qd (p.Range*sn p.Azimuth.toNat),Qd (p.Range*cs p.Azimuth.toNat)⟩=⟨s.At.X+Qd (p.Range*sn p.Azimuth.toNat),s.At.Y+Qd (p.Range*cs p.Azimuth.toNat)⟩:=by
  unfold Jr
  simp only
  rw[Zt (by omega),Zt (by omega)]
 rw[dq,HH (by unfold PIn;simp only;omega),e.1,decide_eq_false (by omega)]
 rfl
theorem CQ {s:Zn} {t:Zj} (hs:(ZK s t).2=0) (hx:(Yb s (ZK s t).1).2=0):sqr (Yb s (ZK s t).1).1.At t.At≤(Yb s (ZK s t).1).1.Error*(Yb s (ZK s t).1).1.Error:=by
 by_cases he:s.At=t.At
 ·exact SU hs he hx
 ·have hc:=VA hs
  have ae:=hc.2.1.aerr
  have re:=hc.2.1.rerr
  have az:=Gm hs
  exact CN (u:=0) hs he (by omega) (by omega) (by omega) hx
end Go.Sky
end
section
namespace Go.Sky
open Go Go.Eng Go.Proofs
def Vp (x:Zn) (x_2:Zn):Bool :=
 x.ID==x_2.ID
theorem HI (x:Zn) (vg:Addr) (x_2:Zn) (w:World) (uo:Rd w 6 (some vg) [Zn.c x_2]):Calls Tryz.prog 139 #[Zn.v x,.pointer (some vg)] w (Ret w (.bool (Vp x x_2))):=by
 exact Zp (vs:=[Zn.v x,.pointer (some vg)]) (w:=w) Tryz.func139 rfl Tryz.ntmps139 rfl (Zf (ZA 2 (fun b1=>.p0 b1) (fun b1=>Bk b1 (Zn.c x) 85) (fun b1=>{}) (fun b1=>Zc 2 [] [(3,.b false)] {} (Zz (Zc 3 [0] [(5,.i x.ID),(6,.pointer (some vg))] {} (TL.v (sV (Instr.loadAt 3 (.pointer (some vg)))) 7 (.i x_2.ID) (fun w hM=>Zu (off:=0) (.i x_2.ID) (uo.sat hM) (XU _) Kr Kr) {} (Zc 6 [] [(3,.b (x.ID==x_2.ID))] {} (Zb rfl (TC.ret (TE.ret [] (.b (x.ID==x_2.ID)) {} (by unfold Vp;refine eS (fun z=>(.b z:Value)) ?_;exact rfl)))))))))))
def K7 (c0:Zn):List Zn→Nat→((Unit) ⊕ (Int))
 | [],_=>.inl ()
 | x::xs,k=>let r1:=Vp x c0
  cond r1 (
   .inr (k:Int)) (
   K7 c0 xs (k+1))
def KD (s:List Zn) (c0:Zn):Int :=
 Sum.elim (fun _ =>
  (-1)) (fun r=>r) (K7 c0 s 0)
theorem HJ (A_s:Option Addr) (c_s:Nat) (s:List Zn) (jc:Addr) (c0:Zn) (w:World) (h_s:Rd w 6 A_s (s.map Zn.c)) (_hc_s:s.length≤c_s) (y6:Rd w 6 (some jc) [Zn.c c0]):Calls Tryz.prog 170 #[.slice A_s s.length c_s,.func (.func 139) #[] #[.pointer (some jc)]] w (Ret w (.int .i64 (KD s c0))):=by
 have s_s:=h_s.short;rw[aD] at s_s
 refine Zp (vs:=[.slice A_s s.length c_s,.func (.func 139) #[] #[.pointer (some jc)]]) (w:=w) Tryz.func170 rfl Tryz.ntmps170 rfl (Zf (Zc 1 [] [(4,.i 0)] {} (Z1 (Zf (Zc 3 [] [(7,.i (s.length:Int)),(8,.i 0)] {} (Zb rfl ?_))))))
 obtain⟨R1,hR⟩:∃ R,R=K7 c0 s 0:=⟨_,rfl⟩
 refine TC.cut (S:=Unit) (fun (_:Unit)=>[]) (fun (_:Unit)=>[]) (fun (_:Unit)=>R1=.inl ()) ?_ ?_
 ·refine TC.block (Xp (X:=Nat) (fun k=>[(0,.slice A_s s.length c_s),(1,.func (.func 139) #[] #[.pointer (some jc)]),(7,.i (s.length:Int)),(8,.i (k:Int))]) (fun k=>[]) (fun k=>s.length-k) (fun k=>k≤s.length∧R1=K7 c0 (s.drop k) k) ?_ 0 ⟨aP _,hR⟩ Kr (sb 0))
  rintro k ⟨hk,hI⟩
  refine Zf (Zc 1 [] [(9,.b (decide ((k:Int)<(s.length:Int))))] {} (Z1 (TC.cond (decide ((k:Int)<(s.length:Int))) rfl Kr (fun h1=>?_) (fun h1=>?_))))
  ·have hlt:=ltN h1
   obtain⟨x,hx⟩:=elN hlt
   have hd:=drop_at hx
   refine Yg (TC.seq (TC.block (Zf (Zc 2 [] [(5,.i (k:Int))] {} (Zz (Zc 3 [] [(11,.func (.func 139) #[] #[.pointer (some jc)]),(12,.slice A_s s.length c_s),(13,.i (k:Int))] {} (TL.v (sV (Instr.indexAt 55 (.slice A_s s.length c_s) (.i (k:Int)))) 14 (.pointer (some (Ix A_s (k*6)))) (fun w hM=>Zr (h_s.sat hM) (by simp) Kr sd sd) {} (TL.v (sV (Instr.loadAt 85 (.pointer (some (Ix A_s (k*6)))))) 15 (Zn.v x) (fun w hM=>Z9 (n:=6) (off:=0) (i:=k) (Zn.v x) (h_s.sat hM) (Z6 hx) Kr Kr Kr) {} (TL.c 16 (Vp x c0) (fun r1=>.b r1) (fun w hM=>HI x jc c0 w (y6.sat hM)) {} (fun r1 hr1=>Zb rfl (TC.cond r1 rfl Kr (fun h2=>?_) (fun h2=>?_))))))))))))
   ·refine Zf (Zc 2 [] [(4,.i (k:Int))] {} (Zb rfl (TC.ret (ZL (Zo (Zo (ZL (Zo (Zo ?_)))))))))
    exact TE.ret [] (.i (k:Int)) {} (by unfold KD;refine eS (fun z=>(.i z:Value)) ?_;subst hr1;exact Xh (hR.symm.trans (hI.trans (by rw[hd];exact Zm h2 (rfl)))) rfl)
   ·exact TC.skip (ZY (Z3 (TC.region (Zc 2 [] [(8,.i (w64 ((k:Int)+1)))] {} (Zw rfl (TE.rw 8 (.i (w64 ((k:Int)+1))) (.i ((k+1:Nat):Int)) Kr (ZD k (by omega)) (Z4 (x:=k) (k+1) ⟨by omega,hI.trans (by subst hr1;rw[hd];exact Ze h2 (rfl))⟩ (mN hlt) Kr (sb 0))))))))
  ·have hd:=Qb h1
   refine TC.exit (ZT (ZT (Z0 ?_)))
   exact TE.cut () (hI.trans (by rw[hd];exact rfl)) Kr (sb 0)
 ·intro _ hJ
  exact YC (Zc 1 [] [(4,.i (-1))] {} (Zb rfl (TC.ret (TE.ret [] (.i (-1)) {} (by unfold KD;refine eS (fun z=>(.i z:Value)) ?_;exact Q3 (hR.symm.trans hJ) (rfl))))))
def K8 (s:List Zn) (c0:Zn):Bool :=
 let r1:=KD s c0
 decide (r1≥0)
theorem Wg (A_s:Option Addr) (c_s:Nat) (s:List Zn) (jc:Addr) (c0:Zn) (w:World) (h_s:Rd w 6 A_s (s.map Zn.c)) (du:s.length≤c_s) (y6:Rd w 6 (some jc) [Zn.c c0]):Calls Tryz.prog 138 #[.slice A_s s.length c_s,.func (.func 139) #[] #[.pointer (some jc)]] w (Ret w (.bool (K8 s c0))):=by
 have s_s:=h_s.short;rw[aD] at s_s
 exact Zp (vs:=[.slice A_s s.length c_s,.func (.func 139) #[] #[.pointer (some jc)]]) (w:=w) Tryz.func138 rfl Tryz.ntmps138 rfl (Zf (Zc 1 [] [(4,.b false)] {} (Zz (Zc 2 [] [(5,.slice A_s s.length c_s),(6,.func (.func 139) #[] #[.pointer (some jc)])] {} (TL.c 7 (KD s c0) (fun r1=>.i r1) (fun w hM=>HJ A_s c_s s jc c0 w (h_s.sat hM) du (y6.sat hM)) {} (fun r1 hr1=>Zc 5 [] [(4,.b (decide (r1≥0)))] {} (Zb rfl (TC.ret (TE.ret [] (.b (decide (r1≥0))) {} (by unfold K8;refine eS (fun z=>(.b z:Value)) ?_;subst hr1;exact rfl))))))))))
def KZ (l:List Zn):List Zn→Nat→((Unit) ⊕ (Int))
 | [],_=>.inl ()
 | x::xs,k=>let r1:=Y6 x
  cond (r1 != 0) (
   .inr r1) (
   let r2:=K8 (l.take k) x
   cond r2 (
    .inr 7) (
    KZ l xs (k+1)))
def QP (l:List Zn):Int :=
 cond (decide ((l.length:Int)>4)) (
  2) (
  Sum.elim (fun _ =>
   0) (fun r=>r) (KZ l l 0))
set_option maxHeartbeats 4000000 in
theorem DI (A_l:Option Addr) (c_l:Nat) (l:List Zn) (w:World) (h_l:Rd w 6 A_l (l.map Zn.c)) (km:l.length≤c_l):Calls Tryz.prog 79 #[.slice A_l l.length c_l] w (Ret w (.int .i64 (QP l))):=by
 have s_l:=h_l.short;rw[aD] at s_l
 refine Zp (vs:=[.slice A_l l.length c_l]) (w:=w) Tryz.func79 rfl Tryz.ntmps79 rfl (Zf (Zc 1 [] [(2,.i 0)] {} (Z1 (Zf (Zc 3 [] [(8,.b (decide ((l.length:Int)>4)))] {} (Zb rfl (TC.cond (decide ((l.length:Int)>4)) rfl Kr (fun h1=>?_) (fun h1=>?_))))))))
 ·exact Zf (Zc 1 [] [(2,.i 2)] {} (Zb rfl (TC.ret (Zo (TE.ret [] (.i 2) {} (by unfold QP;refine eS (fun z=>(.i z:Value)) ?_;exact Zm h1 (rfl)))))))
 ·have vm:=(Zv h1)
  refine Yg (TC.seq (Zf (Zc 3 [] [(9,.slice A_l l.length c_l),(10,.i (l.length:Int)),(11,.i 0)] {} (Zb rfl ?_))))
  obtain⟨R1,hR⟩:∃ R,R=KZ l l 0:=⟨_,rfl⟩
  refine TC.cut (S:=Unit) (fun (_:Unit)=>[]) (fun (_:Unit)=>[]) (fun (_:Unit)=>R1=.inl ()) ?_ ?_
  ·refine TC.block (Xp (X:=Nat) (fun k=>[(0,.slice A_l l.length c_l),(9,.slice A_l l.length c_l),(10,.i (l.length:Int)),(11,.i (k:Int))]) (fun k=>[]) (fun k=>l.length-k) (fun k=>k≤l.length∧R1=KZ l (l.drop k) k) ?_ 0 ⟨aP _,hR⟩ Kr (sb 0))
   rintro k ⟨hk,hI⟩
   refine Zf (Zc 1 [] [(12,.b (decide ((k:Int)<(l.length:Int))))] {} (Z1 (TC.cond (decide ((k:Int)<(l.length:Int))) rfl Kr (fun h2=>?_) (fun h2=>?_))))
   ·have hlt:=ltN h2
    obtain⟨x,hx⟩:=elN hlt
    have hd:=drop_at hx
    refine Yg (TC.seq (TC.block (Zf (Zc 1 [] [(13,.i (k:Int))] {} (TL.v (sV (Instr.indexAt 55 (.slice A_l l.length c_l) (.i (k:Int)))) 14 (.pointer (some (Ix A_l (k*6)))) (fun w hM=>Zr (h_l.sat hM) (by simp) Kr sd sd) {} (TL.v (sV (Instr.loadAt 85 (.pointer (some (Ix A_l (k*6)))))) 15 (Zn.v x) (fun w hM=>Z9 (n:=6) (off:=0) (i:=k) (Zn.v x) (h_l.sat hM) (Z6 hx) Kr Kr Kr) {} (ZA 4 (fun b1=>.p0 b1) (fun b1=>Bk b1 (Zn.c Zn.zero) 85) (fun b1=>{}) (fun b1=>Zc 5 [] [(3,.i (k:Int))] {} (Yp 0 (Bk b1 (Zn.c x) 85) (fun _=>{}) (Z1 (Zf (Zc 1 [0] [(16,Zn.v x)] {} (TL.c 17 (Y6 x) (fun r1=>.i r1) (fun w _=>V9 x w) {} (fun r1 hr1=>Zc 3 [] [(5,.i r1)] {} (Zz (Zc 2 [] [(19,.b (r1 != 0))] {} (Zb rfl (TC.cond (r1 != 0) rfl Kr (fun h3=>?_) (fun h3=>?_)))))))))))))))))))
    ·refine Zf (Zc 2 [] [(2,.i r1)] {} (Zb rfl (TC.ret (Zo (ZL (Zo (Zo (ZL (Zo (Zo ?_))))))))))
     exact TE.ret [] (.i r1) {} (by unfold QP;refine eS (fun z=>(.i z:Value)) ?_;subst hr1;exact Ze h1 (Xh (hR.symm.trans (hI.trans (by rw[hd];exact Zm h3 (rfl)))) rfl))
    ·have y2:=(QA h3)
     refine Yc (Zc 2 [] [(21,.slice A_l l.length c_l),(22,.i (k:Int))] {} ?_)
     obtain⟨A1,hA1⟩:∃ A0_,A0_=(if c_l=0 then A_l else A_l.map (fun a=>a.add (0*6))):=⟨_,rfl⟩
     have hR1:Rd w 6 A1 ((l.take k).map Zn.c):=by rw[hA1];exact h_l.cutMap 0 _ km
     have hC1:(l.take k).length≤(c_l-0):=by simp only[aZ];omega
     have aa:=hR1.short;rw[aD] at aa
     refine TL.v (sV (Instr.sliceAt 55 (.slice A_l l.length c_l) none (some (.i (k:Int))) none)) 23 (.slice A1 ((l.take k).length) (c_l-0)) (fun w hM=>(Vv 0 k Kr (.inl ⟨rfl,rfl⟩) (.inr ⟨_,_,rfl,sd,rfl⟩) sd sd).trans (by rw[hA1];congr 3;first|(simp only[aZ] <;> omega)|(simp only[aZ] at * <;> omega))) {} (Zc 4 [] [(24,.func (.func 139) #[] #[.p0 b1])] {} (TL.c 25 (K8 (l.take k) x) (fun r2=>.b r2) (fun w hM=>Wg A1 (c_l-0) (l.take k) ⟨b1,0,none⟩ x w (hR1.sat hM) hC1 (Rd.lit hM 0 _ rfl Kr Kr Kr)) {} (fun r2 hr2=>Zb rfl (TC.cond r2 rfl Kr (fun h4=>?_) (fun h4=>?_)))))
     ·refine Zf (Zc 1 [] [(2,.i 7)] {} (Zb rfl (TC.ret (ZL (Zo (Zo (ZL (Zo (Zo ?_)))))))))
      exact TE.ret [] (.i 7) {} (by unfold QP;refine eS (fun z=>(.i z:Value)) ?_;subst hr1 hr2;exact Ze h1 (Xh (hR.symm.trans (hI.trans (by rw[hd];exact Ze h3 (Zm h4 (rfl))))) rfl))
     ·exact TC.skip (ZY (Z3 (TC.region (Zc 2 [] [(11,.i (w64 ((k:Int)+1)))] {} (Zw rfl (TE.rw 11 (.i (w64 ((k:Int)+1))) (.i ((k+1:Nat):Int)) Kr (ZD k (by omega)) (Z4 (x:=k) (k+1) ⟨by omega,hI.trans (by subst hr1 hr2;rw[hd];exact Ze h3 (Ze h4 (rfl)))⟩ (mN hlt) Kr (sb 0))))))))
   ·have hd:=Qb h2
    refine TC.exit (ZT (ZT (Z0 ?_)))
    exact TE.cut () (hI.trans (by rw[hd];exact rfl)) Kr (sb 0)
  ·intro _ hJ
   exact YC (Zc 1 [] [(2,.i 0)] {} (Zb rfl (TC.ret (TE.ret [] (.i 0) {} (by unfold QP;refine eS (fun z=>(.i z:Value)) ?_;exact Ze h1 (Q3 (hR.symm.trans hJ) (rfl)))))))
def Qw:List Zs→Nat→((Unit) ⊕ (Int))
 | [],_=>.inl ()
 | x::xs,k=>let r1:=Ym x
  cond (r1 != 0) (
   .inr r1) (
   Qw xs (k+1))
def Xx (l:List Zs):Int :=
 cond (decide ((l.length:Int)>1024)) (
  2) (
  Sum.elim (fun _ =>
   0) (fun r=>r) (Qw l 0))
theorem Wh (A_l:Option Addr) (c_l:Nat) (l:List Zs) (w:World) (h_l:Rd w 6 A_l (l.map Zs.c)) (_hc_l:l.length≤c_l):Calls Tryz.prog 80 #[.slice A_l l.length c_l] w (Ret w (.int .i64 (Xx l))):=by
 have s_l:=h_l.short;rw[aD] at s_l
 refine Zp (vs:=[.slice A_l l.length c_l]) (w:=w) Tryz.func80 rfl Tryz.ntmps80 rfl (Zf (Zc 1 [] [(2,.i 0)] {} (Z1 (Zf (Zc 3 [] [(8,.b (decide ((l.length:Int)>1024)))] {} (Zb rfl (TC.cond (decide ((l.length:Int)>1024)) rfl Kr (fun h1=>?_) (fun h1=>?_))))))))
 ·exact Zf (Zc 1 [] [(2,.i 2)] {} (Zb rfl (TC.ret (Zo (TE.ret [] (.i 2) {} (by unfold Xx;refine eS (fun z=>(.i z:Value)) ?_;exact Zm h1 (rfl)))))))
 ·have vm:=(Zv h1)
  refine Yg (TC.seq (Zf (Zc 3 [] [(9,.slice A_l l.length c_l),(10,.i (l.length:Int)),(11,.i 0)] {} (Zb rfl ?_))))
  obtain⟨R1,hR⟩:∃ R,R=Qw l 0:=⟨_,rfl⟩
  refine TC.cut (S:=Unit) (fun (_:Unit)=>[]) (fun (_:Unit)=>[]) (fun (_:Unit)=>R1=.inl ()) ?_ ?_
  ·refine TC.block (Xp (X:=Nat) (fun k=>[(9,.slice A_l l.length c_l),(10,.i (l.length:Int)),(11,.i (k:Int))]) (fun k=>[]) (fun k=>l.length-k) (fun k=>k≤l.length∧R1=Qw (l.drop k) k) ?_ 0 ⟨aP _,hR⟩ Kr (sb 0))
   rintro k ⟨hk,hI⟩
   refine Zf (Zc 1 [] [(12,.b (decide ((k:Int)<(l.length:Int))))] {} (Z1 (TC.cond (decide ((k:Int)<(l.length:Int))) rfl Kr (fun h2=>?_) (fun h2=>?_))))
   ·have hlt:=ltN h2
    obtain⟨x,hx⟩:=elN hlt
    have hd:=drop_at hx
    refine Yg (TC.seq (TC.block (Zf (TL.v (sV (Instr.indexAt 83 (.slice A_l l.length c_l) (.i (k:Int)))) 13 (.pointer (some (Ix A_l (k*6)))) (fun w hM=>Zr (h_l.sat hM) (by simp) Kr sd sd) {} (TL.v (sV (Instr.loadAt 89 (.pointer (some (Ix A_l (k*6)))))) 14 (Zs.v x) (fun w hM=>Z9 (n:=6) (off:=0) (i:=k) (Zs.v x) (h_l.sat hM) (Z6 hx) Kr Kr Kr) {} (ZA 4 (fun b1=>.p0 b1) (fun b1=>Bk b1 (Zs.c Zs.zero) 89) (fun b1=>{}) (fun b1=>Yp 0 (Bk b1 (Zs.c x) 89) (fun _=>{}) (Zz (Zc 1 [0] [(15,Zs.v x)] {} (TL.c 16 (Ym x) (fun r1=>.i r1) (fun w _=>Vo x w) {} (fun r1 hr1=>Zc 3 [] [(5,.i r1)] {} (Zz (Zc 2 [] [(18,.b (r1 != 0))] {} (Zb rfl (TC.cond (r1 != 0) rfl Kr (fun h3=>?_) (fun h3=>?_))))))))))))))))
    ·refine Zf (Zc 2 [] [(2,.i r1)] {} (Zb rfl (TC.ret (ZL (Zo (Zo (ZL (Zo (Zo ?_)))))))))
     exact TE.ret [] (.i r1) {} (by unfold Xx;refine eS (fun z=>(.i z:Value)) ?_;subst hr1;exact Ze h1 (Xh (hR.symm.trans (hI.trans (by rw[hd];exact Zm h3 (rfl)))) rfl))
    ·have y2:=(QA h3)
     exact TC.skip (ZY (Z3 (TC.region (Zc 2 [] [(11,.i (w64 ((k:Int)+1)))] {} (Zw rfl (TE.rw 11 (.i (w64 ((k:Int)+1))) (.i ((k+1:Nat):Int)) Kr (ZD k (by omega)) (Z4 (x:=k) (k+1) ⟨by omega,hI.trans (by subst hr1;rw[hd];exact Ze h3 (rfl))⟩ (mN hlt) Kr (sb 0))))))))
   ·have hd:=Qb h2
    refine TC.exit (ZT (ZT (Z0 ?_)))
    exact TE.cut () (hI.trans (by rw[hd];exact rfl)) Kr (sb 0)
  ·intro _ hJ
   exact YC (Zc 1 [] [(2,.i 0)] {} (Zb rfl (TC.ret (TE.ret [] (.i 0) {} (by unfold Xx;refine eS (fun z=>(.i z:Value)) ?_;exact Ze h1 (Q3 (hR.symm.trans hJ) (rfl)))))))
def Xb (x:Zs):List Zn→Nat→(List Zj)→(List Zj)
 | [],_,jo=>jo
 | x_2::xs,k_2,jo=>cond (x_2.ID != x.Radar) (
   Xb x xs (k_2+1) jo) (
   let r3:=Yb x_2 x
   cond (r3.2==0) (
    Xb x xs (k_2+1) (jo++([r3.1]))) (
    Xb x xs (k_2+1) jo))
def Je (l:List Zn):List Zs→Nat→(List Zj)→(List Zj)
 | [],_,out=>out
 | x::xs,k,out=>YB (Xb x l 0 out) (fun yn =>
   Je l xs (k+1) yn)
def XT (l:List Zn) (xv:List Zs):List Zj×Int :=
 let r1:=QP l
 cond (r1 != 0) (
  ([],r1)) (
  let r2:=Xx xv
  cond (r2 != 0) (
   ([],r2)) (
   YB (Je l xv 0 ([]:List Zj)) (fun qk =>
    (qk,0))))
theorem Kv {l:List Zn} {r:Int} (hr:QP l=r) (h:(r != 0)=false):l.length≤4:=by
 have h:r=0:=by simpa using h
 rw[h] at hr
 unfold QP at hr
 cases h1:decide ((l.length:Int)>4) with
 | true=>rw[h1] at hr;cases hr
 | false=>have:=of_decide_eq_false h1;omega
theorem J0 {l:List Zs} {r:Int} (hr:Xx l=r) (h:(r != 0)=false):l.length≤1024:=by
 have h:r=0:=by simpa using h
 rw[h] at hr
 unfold Xx at hr
 cases h1:decide ((l.length:Int)>1024) with
 | true=>rw[h1] at hr;cases hr
 | false=>have:=of_decide_eq_false h1;omega
set_option maxHeartbeats 4000000 in
theorem DJ (A_l:Option Addr) (c_l:Nat) (l:List Zn) (A_plots:Option Addr) (vv:Nat) (xv:List Zs) (w:World) (h_l:Rd w 6 A_l (l.map Zn.c)) (km:l.length≤c_l) (ui:Rd w 6 A_plots (xv.map Zs.c)) (s8:xv.length≤vv) (hT:G8 w):Calls Tryz.prog 35 #[.slice A_l l.length c_l,.slice A_plots xv.length vv] w (JH (Γ:=(Option Addr×Nat)) (cx w) (fun g=>.tuple #[.slice g.1 ((XT l xv).1.length) g.2,.int .i64 ((XT l xv).2)]) (fun g=>[.inr (Own g.1 g.2 42 6 (((XT l xv).1).map Zj.c))])):=by
 have s_l:=h_l.short;rw[aD] at s_l
 have tg:=ui.short;rw[aD] at tg
 refine Zp (vs:=[.slice A_l l.length c_l,.slice A_plots xv.length vv]) (w:=w) Tryz.func35 rfl Tryz.ntmps35 rfl (Zf (Zc 2 [] [(4,.slice none 0 0),(5,.i 0)] {} (Z1 (Zf (Zc 1 [] [(15,.slice A_l l.length c_l)] {} (TL.c 16 (QP l) (fun r1=>.i r1) (fun w hM=>DI A_l c_l l w (h_l.sat hM) km) {} (fun r1 hr1=>Zc 3 [] [(6,.i r1)] {} (Zz (Zc 2 [] [(18,.b (r1 != 0))] {} (Zb rfl (TC.cond (r1 != 0) rfl Kr (fun h1=>?_) (fun h1=>?_))))))))))))
 ·refine Zf (Zc 3 [] [(4,.slice none 0 0),(5,.i r1)] {} (Zb rfl (TC.ret (Zo ?_))))
  have e:XT l xv=([],r1):=by subst hr1;unfold XT;exact Zm h1 (rfl)
  refine Yi [Ow none 0 42 6 (([]:List Zj).map Zj.c)] (fun _ hM=>hM.emptyrow none 42 6) ?_
  rw[e]
  exact ZO (.inl rfl) (none,0) [] (.tuple #[.slice none 0 0,.i r1]) {} rfl (fun _ hM=>hM.sub (sb 1))
 ·have vm:=(QA h1)
  refine Yg (TC.seq (Zf (Zc 1 [] [(20,.slice A_plots xv.length vv)] {} (TL.c 21 (Xx xv) (fun r2=>.i r2) (fun w hM=>Wh A_plots vv xv w (ui.sat hM) s8) {} (fun r2 hr2=>Zc 3 [] [(7,.i r2)] {} (Zz (Zc 2 [] [(23,.b (r2 != 0))] {} (Zb rfl (TC.cond (r2 != 0) rfl Kr (fun h2=>?_) (fun h2=>?_))))))))))
  ·refine Zf (Zc 3 [] [(4,.slice none 0 0),(5,.i r2)] {} (Zb rfl (TC.ret (Zo ?_))))
   have e:XT l xv=([],r2):=by subst hr1 hr2;unfold XT;exact Ze h1 (Zm h2 (rfl))
   refine Yi [Ow none 0 42 6 (([]:List Zj).map Zj.c)] (fun _ hM=>hM.emptyrow none 42 6) ?_
   rw[e]
   exact ZO (.inl rfl) (none,0) [] (.tuple #[.slice none 0 0,.i r2]) {} rfl (fun _ hM=>hM.sub (sb 1))
  ·have k9:=(QA h2)
   refine Yc (Zc 1 [] [(8,.slice none 0 0)] {} (Z1 (Zf (Zc 3 [] [(25,.slice A_plots xv.length vv),(26,.i (xv.length:Int)),(27,.i 0)] {} (Zb rfl (Q0 [Ow none 0 42 6 (([]:List Zj).map Zj.c)] (fun _ hM=>hM.emptyrow none 42 6) ?_))))))
   obtain⟨R4,hR⟩:∃ R,R=Je l xv 0 ([]:List Zj):=⟨_,rfl⟩
   refine TC.cut (S:=(List Zj)×(Option Addr)×Nat) (fun (qk,A_out_2,qe)=>[(8,.slice A_out_2 qk.length qe)]) (fun (qk,A_out_2,qe)=>[Ow A_out_2 qe 42 6 (qk.map Zj.c)]) (fun (qk,A_out_2,qe)=>R4=qk∧qk.length≤4*xv.length) ?_ ?_
   ·refine TC.block (Xp (X:=Nat×(List Zj)×(Option Addr)×Nat) (fun (k,out,A_out,qh)=>[(0,.slice A_l l.length c_l),(8,.slice A_out out.length qh),(25,.slice A_plots xv.length vv),(26,.i (xv.length:Int)),(27,.i (k:Int))]) (fun (k,out,A_out,qh)=>[Ow A_out qh 42 6 (out.map Zj.c)]) (fun (k,out,A_out,qh)=>xv.length-k) (fun (k,out,A_out,qh)=>k≤xv.length∧R4=Je l (xv.drop k) k out∧out.length≤4*k) ?_ (0,([]:List Zj),none,0) ⟨aP _,hR,sz⟩ Kr (sb 1))
    rintro⟨k,out,A_out,qh⟩ ⟨hk,hI,kn⟩
    refine Zf (Zc 1 [] [(28,.b (decide ((k:Int)<(xv.length:Int))))] {} (Z1 (TC.cond (decide ((k:Int)<(xv.length:Int))) rfl Kr (fun h3=>?_) (fun h3=>?_))))
    ·have hlt:=ltN h3
     obtain⟨x,hx⟩:=elN hlt
     have hd:=drop_at hx
     refine Yg (TC.seq (TC.block (Zf (TL.v (sV (Instr.indexAt 83 (.slice A_plots xv.length vv) (.i (k:Int)))) 29 (.pointer (some (Ix A_plots (k*6)))) (fun w hM=>Zr (ui.sat hM) (by simp) Kr (by (try have kl_:=Kv hr1 h1);(try have kp_:=J0 hr2 h2);exact sd) (by (try have kl_:=Kv hr1 h1);(try have kp_:=J0 hr2 h2);exact sd)) {} (TL.v (sV (Instr.loadAt 89 (.pointer (some (Ix A_plots (k*6)))))) 30 (Zs.v x) (fun w hM=>Z9 (n:=6) (off:=0) (i:=k) (Zs.v x) (ui.sat hM) (Z6 hx) Kr Kr Kr) {} (ZA 10 (fun b1=>.p0 b1) (fun b1=>Bk b1 (Zs.c Zs.zero) 89) (fun b1=>{}) (fun b1=>Yp 0 (Bk b1 (Zs.c x) 89) (fun _=>{}) (Zz (Zc 3 [] [(31,.slice A_l l.length c_l),(32,.i (l.length:Int)),(33,.i 0)] {} (Zb rfl ?_))))))))))
     obtain⟨R5,xo⟩:∃ R,R=Xb x l 0 out:=⟨_,rfl⟩
     refine TC.cut (S:=(List Zj)×(Option Addr)×Nat) (fun (yn,A_out_4,yb)=>[(0,.slice A_l l.length c_l),(8,.slice A_out_4 yn.length yb),(25,.slice A_plots xv.length vv),(26,.i (xv.length:Int)),(27,.i (k:Int))]) (fun (yn,A_out_4,yb)=>[Ow A_out_4 yb 42 6 (yn.map Zj.c)]) (fun (yn,A_out_4,yb)=>R5=yn∧yn.length≤out.length+l.length) ?_ ?_
     ·refine TC.block (Xp (X:=Nat×(List Zj)×(Option Addr)×Nat) (fun (k_2,jo,A_out_3,jt)=>[(0,.slice A_l l.length c_l),(8,.slice A_out_3 jo.length jt),(10,.p0 b1),(25,.slice A_plots xv.length vv),(26,.i (xv.length:Int)),(27,.i (k:Int)),(31,.slice A_l l.length c_l),(32,.i (l.length:Int)),(33,.i (k_2:Int))]) (fun (k_2,jo,A_out_3,jt)=>[Bk b1 (Zs.c x) 89,Ow A_out_3 jt 42 6 (jo.map Zj.c)]) (fun (k_2,jo,A_out_3,jt)=>l.length-k_2) (fun (k_2,jo,A_out_3,jt)=>k_2≤l.length∧R5=Xb x (l.drop k_2) k_2 jo∧jo.length≤out.length+k_2) ?_ (0,out,A_out,qh) ⟨aP _,xo,sz⟩ Kr (sb 3))
      rintro⟨k_2,jo,A_out_3,jt⟩ ⟨y4,xg,ab⟩
      refine Zf (Zc 1 [] [(34,.b (decide ((k_2:Int)<(l.length:Int))))] {} (Z1 (TC.cond (decide ((k_2:Int)<(l.length:Int))) rfl Kr (fun h4=>?_) (fun h4=>?_))))
      ·have zk:=ltN h4
       obtain⟨x_2,jf⟩:=elN zk
       have zr:=drop_at jf
       refine Yg (TC.seq (TC.block (Zf (TL.v (sV (Instr.indexAt 55 (.slice A_l l.length c_l) (.i (k_2:Int)))) 35 (.pointer (some (Ix A_l (k_2*6)))) (fun w hM=>Zr (h_l.sat hM) (by simp) Kr (by (try have kl_:=Kv hr1 h1);(try have kp_:=J0 hr2 h2);exact sd) (by (try have kl_:=Kv hr1 h1);(try have kp_:=J0 hr2 h2);exact sd)) {} (TL.v (sV (Instr.loadAt 85 (.pointer (some (Ix A_l (k_2*6)))))) 36 (Zn.v x_2) (fun w hM=>Z9 (n:=6) (off:=0) (i:=k_2) (Zn.v x_2) (h_l.sat hM) (Z6 jf) Kr Kr Kr) {} (ZA 12 (fun b2=>.p0 b2) (fun b2=>Bk b2 (Zn.c Zn.zero) 85) (fun b2=>{}) (fun b2=>Yp 0 (Bk b2 (Zn.c x_2) 85) (fun _=>{}) (Z1 (Zf (Zc 5 [0,1] [(41,.b (x_2.ID != x.Radar))] {} (Zb rfl (TC.cond (x_2.ID != x.Radar) rfl Kr (fun h5=>?_) (fun h5=>?_)))))))))))))
       ·have uf:=(F5 h5)
        refine TC.exit (ZT (Z0 ?_))
        exact Z3 (TC.region (Zc 2 [] [(33,.i (w64 ((k_2:Int)+1)))] {} (Zw rfl (TE.rw 33 (.i (w64 ((k_2:Int)+1))) (.i ((k_2+1:Nat):Int)) Kr (ZD k_2 (by (try have kl_:=Kv hr1 h1);(try have kp_:=J0 hr2 h2);omega)) (Z4 (x:=(k_2,jo,A_out_3,jt)) (k_2+1,jo,A_out_3,jt) ⟨by omega,xg.trans (by subst hr1 hr2;rw[zr];exact Zm h5 (rfl)),(by (try have kl_:=Kv hr1 h1);(try have kp_:=J0 hr2 h2);exact sl)⟩ (mN zk) Kr (sb 6))))))
       ·have uf:=(QA h5)
        refine Yc (Zc 2 [0,1] [(43,Zn.v x_2),(44,Zs.v x)] {} (TL.c 45 (Yb x_2 x) (fun r3=>.tuple #[Zj.v r3.1,.i r3.2]) (fun w hM=>M7 x_2 x w (hT.sat hM)) {} (fun r3 hr3=>Zc 6 [] [(46,Zj.v r3.1),(47,.i r3.2)] {} (ZA 13 (fun b3=>.p0 b3) (fun b3=>Bk b3 (Zj.c Zj.zero) 42) (fun b3=>{}) (fun b3=>Yp 0 (Bk b3 (Zj.c r3.1) 42) (fun _=>{}) (Zc 9 [] [(14,.i r3.2)] {} (Zz (Zc 2 [] [(49,.b (r3.2==0))] {} (Zb rfl (TC.cond (r3.2==0) rfl Kr (fun h6=>?_) (fun h6=>?_)))))))))))
        ·have y3:=(YT h6)
         refine TC.region (Zc 2 [0] [(50,.slice A_out_3 jo.length jt),(51,Zj.v r3.1)] {} (ZA 52 (fun b4=>.slice (Pa b4) 1 1) (fun b4=>Bk b4 (Zj.c r3.1) 42) (fun b4=>{}) (fun b4=>TL.os (Γ:=AN) (sV (Builtin.append_ #[52,52] 52 #[.slice A_out_3 jo.length jt,.slice (Pa b4) 1 1])) 53 (fun g=>.slice g.1 (jo++([r3.1])).length g.2) 4 (fun g=>Ow g.1 g.2 42 6 ((jo++([r3.1])).map Zj.c)) (QE (bytes:=48) 52 4 ([r3.1]) Kr rfl rfl Zj.one rfl (fun w hM=>(Rd.lit hM 0 _ rfl Kr Kr Kr)) rfl (by (try have kl_:=Kv hr1 h1);(try have kp_:=J0 hr2 h2);exact sa)) {} ?_)))
         rintro⟨A,c⟩
         exact Zc 5 [] [(8,.slice A ((jo++([r3.1])).length) c)] {} (Zw rfl (ZY (Z3 (TC.region (Zc 2 [] [(33,.i (w64 ((k_2:Int)+1)))] {} (Zw rfl (TE.rw 33 (.i (w64 ((k_2:Int)+1))) (.i ((k_2+1:Nat):Int)) Kr (ZD k_2 (by (try have kl_:=Kv hr1 h1);(try have kp_:=J0 hr2 h2);omega)) (Z4 (x:=(k_2,jo,A_out_3,jt)) (k_2+1,(jo++([r3.1])),A,c) ⟨by omega,xg.trans (by subst hr1 hr2 hr3;rw[zr];exact Ze h5 (Zm h6 (rfl))),(by (try have kl_:=Kv hr1 h1);(try have kp_:=J0 hr2 h2);exact sl)⟩ (mN zk) Kr (sb 24)))))))))
        ·have y3:=(Yl h6)
         exact TC.skip (ZY (Z3 (TC.region (Zc 2 [] [(33,.i (w64 ((k_2:Int)+1)))] {} (Zw rfl (TE.rw 33 (.i (w64 ((k_2:Int)+1))) (.i ((k_2+1:Nat):Int)) Kr (ZD k_2 (by (try have kl_:=Kv hr1 h1);(try have kp_:=J0 hr2 h2);omega)) (Z4 (x:=(k_2,jo,A_out_3,jt)) (k_2+1,jo,A_out_3,jt) ⟨by omega,xg.trans (by subst hr1 hr2 hr3;rw[zr];exact Ze h5 (Ze h6 (rfl))),(by (try have kl_:=Kv hr1 h1);(try have kp_:=J0 hr2 h2);exact sl)⟩ (mN zk) Kr (sb 12))))))))
      ·have zr:=Qb h4
       refine TC.exit (ZT (ZT (Z0 ?_)))
       exact TE.cut (jo,A_out_3,jt) (⟨xg.trans (by subst hr1 hr2;rw[zr];exact rfl),(by (try have kl_:=Kv hr1 h1);(try have kp_:=J0 hr2 h2);exact sl)⟩) Kr (sb 2)
     ·rintro⟨yn,A_out_4,yb⟩ ⟨jv,af⟩
      exact ZY (Z3 (TC.region (Zc 2 [] [(27,.i (w64 ((k:Int)+1)))] {} (Zw rfl (TE.rw 27 (.i (w64 ((k:Int)+1))) (.i ((k+1:Nat):Int)) Kr (ZD k (by (try have kl_:=Kv hr1 h1);(try have kp_:=J0 hr2 h2);omega)) (Z4 (x:=(k,out,A_out,qh)) (k+1,yn,A_out_4,yb) ⟨by omega,hI.trans (by subst hr1 hr2;rw[hd];exact Yr (xo.symm.trans jv) (rfl)),(by (try have kl_:=Kv hr1 h1);(try have kp_:=J0 hr2 h2);exact sl)⟩ (mN hlt) Kr (sb 1)))))))
    ·have hd:=Qb h3
     refine TC.exit (ZT (ZT (Z0 ?_)))
     exact TE.cut (out,A_out,qh) (⟨hI.trans (by subst hr1 hr2;rw[hd];exact rfl),(by (try have kl_:=Kv hr1 h1);(try have kp_:=J0 hr2 h2);exact sl)⟩) Kr (sb 1)
   ·rintro⟨qk,A_out_2,qe⟩ ⟨hJ,jw⟩
    refine YC (Zc 3 [] [(4,.slice A_out_2 qk.length qe),(5,.i 0)] {} (Zb rfl (TC.ret ?_)))
    have e:XT l xv=(qk,0):=by subst hr1 hr2;unfold XT;exact Ze h1 (Ze h2 (Yr (hR.symm.trans hJ) (rfl)))
    rw[e]
    exact ZO (.inl rfl) (A_out_2,qe) [] (.tuple #[.slice A_out_2 qk.length qe,.i 0]) {} rfl (fun _ hM=>hM.sub (sb 1))
end Go.Sky
end
section
namespace Go.Sky
open Go Go.Eng Go.Proofs
def YE (a:Zs) (b_:Zs):Int :=
 let r1:=cmp_Compare_int a.Time b_.Time
 let r2:=cmp_Compare_int a.Radar b_.Radar
 let r3:=cmp_Compare_int a.Range b_.Range
 let r4:=cmp_Compare_int a.Azimuth b_.Azimuth
 let r5:=cmp_Compare_int a.Height b_.Height
 let r6:=cmp_Compare_int a.Code b_.Code
 let r7:=Kq ([r1,r2,r3,r4,r5,r6])
 r7
theorem HK (a:Zs) (b_:Zs) (w:World):Calls Tryz.prog 105 #[Zs.v a,Zs.v b_] w (Ret w (.int .i64 (YE a b_))):=by
 exact Zp (vs:=[Zs.v a,Zs.v b_]) (w:=w) Tryz.func105 rfl Tryz.ntmps105 rfl (Zf (ZA 2 (fun b1=>.p0 b1) (fun b1=>Bk b1 (Zs.c a) 89) (fun b1=>{}) (fun b1=>ZA 3 (fun b2=>.p0 b2) (fun b2=>Bk b2 (Zs.c b_) 89) (fun b2=>{}) (fun b2=>Zc 3 [] [(4,.i 0)] {} (Z1 (Ko 30 Kr Kr (YY 4 [1,0] [(6,.i a.Time),(8,.i b_.Time)] {} (TQ.c 9 (cmp_Compare_int a.Time b_.Time) (fun r1=>.i r1) (fun w _=>Y0 a.Time b_.Time w) rfl {} (fun r1 hr1=>YY 9 [1,0] [(11,.i a.Radar),(13,.i b_.Radar)] {} (TQ.c 14 (cmp_Compare_int a.Radar b_.Radar) (fun r2=>.i r2) (fun w _=>Y0 a.Radar b_.Radar w) rfl {} (fun r2 hr2=>YY 14 [1,0] [(16,.i a.Range),(18,.i b_.Range)] {} (TQ.c 19 (cmp_Compare_int a.Range b_.Range) (fun r3=>.i r3) (fun w _=>Y0 a.Range b_.Range w) rfl {} (fun r3 hr3=>YY 19 [1,0] [(21,.i a.Azimuth),(23,.i b_.Azimuth)] {} (TQ.c 24 (cmp_Compare_int a.Azimuth b_.Azimuth) (fun r4=>.i r4) (fun w _=>Y0 a.Azimuth b_.Azimuth w) rfl {} (fun r4 hr4=>YY 24 [1,0] [(26,.i a.Height),(28,.i b_.Height)] {} (TQ.c 29 (cmp_Compare_int a.Height b_.Height) (fun r5=>.i r5) (fun w _=>Y0 a.Height b_.Height w) rfl {} (fun r5 hr5=>YY 29 [1,0] [(31,.i a.Code),(33,.i b_.Code)] {} (TQ.c 34 (cmp_Compare_int a.Code b_.Code) (fun r6=>.i r6) (fun w _=>Y0 a.Code b_.Code w) rfl {} (fun r6 hr6=>TQ.tail rfl (ZA 35 (fun b3=>.slice (Pa b3) 6 6) (fun b3=>Bk b3 #[.i r1,.i r2,.i r3,.i r4,.i r5,.i r6] 3) (fun b3=>{}) (fun b3=>TL.c 36 (Kq ([r1,r2,r3,r4,r5,r6])) (fun r7=>.i r7) (fun w hM=>UT (Pa b3) 6 ([r1,r2,r3,r4,r5,r6]) w (Rd.lit hM 0 _ rfl Kr Kr Kr) (aU _)) {} (fun r7 hr7=>Zc 33 [] [(4,.i r7)] {} (Zb rfl (TC.ret (TE.ret [] (.i r7) {} (by unfold YE;refine eS (fun z=>(.i z:Value)) ?_;subst hr1 hr2 hr3 hr4 hr5 hr6 hr7;exact rfl))))))))))))))))))))))))))
end Go.Sky
end
section
namespace Go.Proofs
open Go.Shelf
def Tryz.laysPlot_ren:Go.Shelf.Ren:=⟨fun|6=>104|15=>141|14=>152|28=>179|29=>169|20=>184|21=>185|22=>186|23=>187|24=>188|25=>189|26=>190|27=>191|46=>219|47=>204|48=>205|49=>220|50=>221|57=>232|n=>n,fun|22=>83|24=>89|25=>192|3=>3|39=>227|0=>0|53=>251|55=>162|4=>4|46=>245|45=>244|50=>208|5=>5|9=>9|66=>268|70=>272|76=>280|77=>148|n=>n,fun|n=>n⟩
theorem Tryz.laysPlot:SlLaysF0.n6 Tryz.prog Tryz.laysPlot_ren:={
 mixed:=by kernel_rfl,
 f6:=⟨Tryz.f104.name,by decide,Tryz.func104.trans (congrArg some (by kernel_rfl))⟩,
 f14:=⟨Tryz.f152.name,by decide,Tryz.func152.trans (congrArg some (by kernel_rfl))⟩,
 f15:=Tryz.func141.trans (congrArg some (by kernel_rfl)),
 f20:=⟨Tryz.f184.name,by decide,Tryz.func184.trans (congrArg some (by kernel_rfl))⟩,
 f21:=⟨Tryz.f185.name,by decide,Tryz.func185.trans (congrArg some (by kernel_rfl))⟩,
 f22:=⟨Tryz.f186.name,by decide,Tryz.func186.trans (congrArg some (by kernel_rfl))⟩,
 f23:=⟨Tryz.f187.name,by decide,Tryz.func187.trans (congrArg some (by kernel_rfl))⟩,
 f24:=⟨Tryz.f188.name,by decide,Tryz.func188.trans (congrArg some (by kernel_rfl))⟩,
 f25:=⟨Tryz.f189.name,by decide,Tryz.func189.trans (congrArg some (by kernel_rfl))⟩,
 f26:=⟨Tryz.f190.name,by decide,Tryz.func190.trans (congrArg some (by kernel_rfl))⟩,
 f27:=⟨Tryz.f191.name,by decide,Tryz.func191.trans (congrArg some (by kernel_rfl))⟩,
 f28:=Tryz.func179.trans (congrArg some (by kernel_rfl)),
 f29:=Tryz.func169.trans (congrArg some (by kernel_rfl)),
 f46:=⟨Tryz.f219.name,by decide,Tryz.func219.trans (congrArg some (by kernel_rfl))⟩,
 f47:=Tryz.func204.trans (congrArg some (by kernel_rfl)),
 f48:=Tryz.func205.trans (congrArg some (by kernel_rfl)),
 f49:=⟨Tryz.f220.name,by decide,Tryz.func220.trans (congrArg some (by kernel_rfl))⟩,
 f50:=⟨Tryz.f221.name,by decide,Tryz.func221.trans (congrArg some (by kernel_rfl))⟩,
 f57:=⟨Tryz.f232.name,by decide,Tryz.func232.trans (congrArg some (by kernel_rfl))⟩,
 t0:=Tryz.underlying0,
 a0:=Tryz.isAgg0,
 z0:=Tryz.sizeOf0,
 v0:=Tryz.zeroValue0,
 t3:=Tryz.underlying3,
 a3:=Tryz.isAgg3,
 z3:=Tryz.sizeOf3,
 v3:=Tryz.zeroValue3,
 t4:=Tryz.underlying4,
 a4:=Tryz.isAgg4,
 z4:=Tryz.sizeOf4,
 v4:=Tryz.zeroValue4,
 t5:=Tryz.underlying5,
 a5:=Tryz.isAgg5,
 z5:=Tryz.sizeOf5,
 v5:=Tryz.zeroValue5,
 t9:=Tryz.underlying9,
 a9:=Tryz.isAgg9,
 z9:=Tryz.sizeOf9,
 v9:=Tryz.zeroValue9,
 t22:=Tryz.underlying83,
 a22:=Tryz.isAgg83,
 z22:=Tryz.sizeOf83,
 v22:=Tryz.zeroValue83,
 t25:=Tryz.underlying192,
 a25:=Tryz.isAgg192,
 z25:=Tryz.sizeOf192,
 v25:=Tryz.zeroValue192,
 t39:=Tryz.underlying227,
 a39:=Tryz.isAgg227,
 z39:=Tryz.sizeOf227,
 v39:=Tryz.zeroValue227,
 t45:=Tryz.underlying244,
 a45:=Tryz.isAgg244,
 z45:=Tryz.sizeOf244,
 v45:=Tryz.zeroValue244,
 t46:=Tryz.underlying245,
 a46:=Tryz.isAgg245,
 z46:=Tryz.sizeOf245,
 v46:=Tryz.zeroValue245,
 t50:=Tryz.underlying208,
 a50:=Tryz.isAgg208,
 z50:=Tryz.sizeOf208,
 v50:=Tryz.zeroValue208,
 t53:=Tryz.underlying251,
 a53:=Tryz.isAgg251,
 z53:=Tryz.sizeOf251,
 v53:=Tryz.zeroValue251,
 t55:=Tryz.underlying162,
 a55:=Tryz.isAgg162,
 z55:=Tryz.sizeOf162,
 v55:=Tryz.zeroValue162,
 t66:=Tryz.underlying268,
 a66:=Tryz.isAgg268,
 z66:=Tryz.sizeOf268,
 v66:=Tryz.zeroValue268,
 t70:=Tryz.underlying272,
 a70:=Tryz.isAgg272,
 z70:=Tryz.sizeOf272,
 v70:=Tryz.zeroValue272,
 t76:=Tryz.underlying280,
 a76:=Tryz.isAgg280,
 z76:=Tryz.sizeOf280,
 v76:=Tryz.zeroValue280,
 t77:=Tryz.underlying148,
 a77:=Tryz.isAgg148,
 z77:=Tryz.sizeOf148,
 v77:=Tryz.zeroValue148 }
end Go.Proofs
end
section
namespace Go.Srt
open Go Go.Eng Go.Sky Go.Proofs Go.Sort
def F2 (p:Zs):List Int:=[p.Time,p.Radar,p.Range,p.Azimuth,p.Height,p.Code]
theorem MF (x y:Zs):ltOf YE x y=lx (F2 x) (F2 y):=PP (F2 x) (F2 y) 0 rfl
theorem Zaz:SWO (ltOf YE):=by
 have irr:∀ x,ltOf YE x x=false:=fun x=>by
  cases h:ltOf YE x x with
  | false=>rfl
  | true=>rw[MF] at h;rw[WT _ _ h] at h;cases h
 have ntr:∀ x y z,ltOf YE x y=false→ltOf YE y z=false→ltOf YE x z=false:=fun x y z h1 h2=>by
  rw[MF] at h1 h2 ⊢;exact RI (F2 x) (F2 y) (F2 z) rfl rfl h1 h2
 refine⟨irr,fun x y z h1 h2=>?_,ntr⟩
 cases h:ltOf YE x z with
 | true=>rfl
 | false =>
  exfalso
  have h3:ltOf YE z y=false:=by rw[MF] at h2 ⊢;exact WT _ _ h2
  rw[ntr x z y h h3] at h1;cases h1
theorem Za0 (x y:Zs) (h1:ltOf YE x y=false) (h2:ltOf YE y x=false):x=y:=by
 rw[MF] at h1 h2
 have:=RJ (F2 x) (F2 y) rfl h1 h2
 cases x;cases y
 simp[F2] at this
 simp[this]
instance:Inhabited Zs:=⟨Zs.zero⟩
def Wu (l:List Zs):List Zs:=l.mergeSort (fun x y=>!ltOf YE y x)
theorem Za1 (x y:Zs) (W:World):Calls Tryz.prog 105 #[.agg (Zs.c x),.agg (Zs.c y)] W (Ret W (.int .i64 (YE x y))):=HK x y W
theorem CS (A:Option Addr) (cap e:Nat) (l:List Zs) (w:World) (hM:Sat ⟨w,XR [.inr (Own A cap e 6 (l.map Zs.c))]⟩ [.inr (Own A cap e 6 (l.map Zs.c))] w) :
  Calls Tryz.prog 104 #[.slice A l.length cap,.func (.func 105) #[] #[]] w (JH (Γ:=List Zs) ⟨w,XR [.inr (Own A cap e 6 (l.map Zs.c))]⟩ (fun _=>.tuple #[])
   (fun r=>[.inr (Qm (r.length=l.length∧r=Wu l)),.inr (Own A cap e 6 (r.map Zs.c))])) :=
 Lu (P:=Tryz.prog) (c:=Zs.c) (k:=6) Tryz.laysPlot (fun _=>by kernel_rfl) (fun _=>by kernel_rfl) (fun _=>rfl) (fun x v hv=>by simp[Zs.c] at hv;rcases hv with rfl|rfl|rfl|rfl|rfl|rfl <;> rfl) YE Zaz 105 (fun _ _=>by kernel_rfl) Za1 Za0 A cap e l w hM
end Go.Srt
end
section
namespace Go.Srt
open Go Go.Eng
section
variable {T:Type}
def Hm (q:T→T→Bool) (p:T):List T→List T
 | []=>[]
 | b::l=>if q b p=true then Hm q b l else b::Hm q b l
def cpt (q:T→T→Bool):List T→List T
 | []=>[]
 | a::l=>a::Hm q a l
variable {q:T→T→Bool} {z:T}
theorem FY (b:T):∀ (l:List T) (p:T),Hm q p (l ++ [b])=Hm q p l++(if q b ((p::l)[l.length]?.getD z)=true then [] else [b])
 | [],p=>by simp[Hm]
 | a::l,p=>by
  have ih:=FY b l a
  have e:(p::a::l)[(a::l).length]?.getD z=(a::l)[l.length]?.getD z:=by simp
  rw[e]
  simp only[dH,Hm]
  rw[ih]
  split <;> simp
theorem Ri (l:List T) (m:Nat) (h1:1≤m) (h2:m<l.length) :
  cpt q (l.take (m+1))=cpt q (l.take m)++(if q (l[m]?.getD z) (l[m-1]?.getD z)=true then [] else [l[m]?.getD z]):=by
 have e:l.take (m+1)=l.take m ++ [l[m]?.getD z]:=by
  rw[gQ,aM h2];rfl
 rw[e]
 cases l with
 | nil=>simp at h2
 | cons a l =>
  obtain⟨n,rfl⟩:∃ n,m=n+1:=⟨m-1,by omega⟩
  simp only[aI] at h2
  simp only[fC,dH,cpt,gY,true_and]
  rw[FY (z:=z)]
  have hl:(l.take n).length=n:=by rw[aZ];omega
  have e2:(a::l.take n)[(l.take n).length]?.getD z=(a::l)[n+1-1]?.getD z:=by
   rw[hl,dJ]
   cases n with
   | zero=>simp
   | succ n=>simp
  rw[e2]
theorem Ib {l:List T} (h:2≤l.length):cpt q (l.take (1:Int).toNat)=l.take (1:Int).toNat:=by
 cases l with
 | nil=>simp at h
 | cons a l=>simp[cpt,Hm]
theorem HL {l:List T} (h:l.length<2):l=cpt q l:=by
 match l,h with
 | [],_=>rfl
 | [a],_=>rfl
theorem Ic {l:List T} {k:Int} (h:cpt q (l.take k.toNat)=l.take k.toNat) (h2:(l.length:Int)≤k):l=cpt q l:=by
 rw[cA (by omega)] at h;exact h.symm
theorem TT {l:List T} {k:Int} (h1:1≤k) (h2:k<l.length) (h:q (l[k.toNat]?.getD z) (l[(k-1).toNat]?.getD z)=false) :
  cpt q (l.take (k+1).toNat)=cpt q (l.take k.toNat) ++ [l[k.toNat]?.getD z]:=by
 have:=Ri (q:=q) (z:=z) l k.toNat (by omega) (by omega)
 rw[show (k+1).toNat=k.toNat+1 by omega,this,show k.toNat-1=(k-1).toNat by omega,h];simp
theorem TU {l:List T} {k:Int} (h1:1≤k) (h2:k<l.length) (h:q (l[k.toNat]?.getD z) (l[(k-1).toNat]?.getD z)=true) :
  cpt q (l.take (k+1).toNat)=cpt q (l.take k.toNat):=by
 have:=Ri (q:=q) (z:=z) l k.toNat (by omega) (by omega)
 rw[show (k+1).toNat=k.toNat+1 by omega,this,show k.toNat-1=(k-1).toNat by omega,h];simp
theorem FZ {l:List T} {k:Int} (h1:0≤k) (h2:k<l.length):l.take (k+1).toNat=l.take k.toNat ++ [l[k.toNat]?.getD z]:=by
 rw[show (k+1).toNat=k.toNat+1 by omega,gQ,aM (by omega)];rfl
theorem OS {l:List T} {k:Int} (h:cpt q (l.take k.toNat)=l.take k.toNat) (h1:1≤k) (h2:k<l.length) (hq:q (l[k.toNat]?.getD z) (l[(k-1).toNat]?.getD z)=false) :
  cpt q (l.take (k+1).toNat)=l.take (k+1).toNat:=by rw[TT h1 h2 hq,h,FZ (z:=z) (by omega) h2]
theorem Ad {l:List T} {k:Int} (h:cpt q (l.take k.toNat)=l.take k.toNat) (h1:1≤k) (h2:k<l.length) (hq:q (l[k.toNat]?.getD z) (l[(k-1).toNat]?.getD z)=true) :
  cpt q (l.take (k+1).toNat)=l.take k.toNat:=by rw[TU h1 h2 hq,h]
def Cin (q:T→T→Bool) (l:List T) (b i k:Int) (d:List T):Prop:=cpt q (l.take (b+i).toNat)=d.take k.toNat∧d.drop (b+i-1).toNat=l.drop (b+i-1).toNat
theorem drop_at (l:List T) (b i:Int) (h1:0≤b) (h2:0≤i):(l.drop b.toNat)[i.toNat]?.getD z=l[(b+i).toNat]?.getD z:=by
 rw[cN];congr 2;omega
theorem CU {l d:List T} {a i:Nat} (h:d.drop a=l.drop a) (hi:a≤i):d[i]?=l[i]?:=by
 have:=congrArg (fun x=>x[i-a]?) h
 simp only[cN] at this
 rwa [show a+(i-a)=i by omega] at this
theorem DK {l d:List T} {b i k j:Int} (h:Cin q l b i k d) (h1:b+i-1≤b+j) (h2:1≤b) (h3:1≤i):(d.drop b.toNat)[j.toNat]?.getD z=l[(b+j).toNat]?.getD z:=by
 rw[drop_at d b j (by omega) (by omega),CU h.2 (by omega)]
theorem SY {l:List T} {k:Int} (h:cpt q (l.take k.toNat)=l.take k.toNat) (h1:1≤k) (h2:k<l.length) (hq:q (l[k.toNat]?.getD z) (l[(k-1).toNat]?.getD z)=true):Cin q l k 1 k l :=
 ⟨Ad h h1 h2 hq,rfl⟩
theorem OT {l d:List T} {b i k:Int} (h:Cin q l b i k d) (h1:1≤b) (h2:1≤i) (h3:b+i<l.length)
  (hq:q ((d.drop b.toNat)[i.toNat]?.getD z) ((d.drop b.toNat)[(i-1).toNat]?.getD z)=true):Cin q l b (i+1) k d:=by
 rw[DK h (by omega) h1 h2,DK h (by omega) h1 h2] at hq
 rw[show b+(i-1)=b+i-1 by omega] at hq
 refine⟨?_,?_⟩
 ·rw[show b+(i+1)=(b+i)+1 by omega,TU (by omega) h3 hq];exact h.1
 ·have:=congrArg (List.drop 1) h.2
  rw[dA,dA] at this
  rwa [show (b+i-1).toNat+1=(b+(i+1)-1).toNat by omega] at this
theorem OU {l d:List T} {b i k:Int} (h:Cin q l b i k d) (h1:1≤b) (h2:1≤i) (h3:b+i<l.length) (h4:0≤k) (h5:k≤b+i-1) (h6:d.length=l.length)
  (hq:q ((d.drop b.toNat)[i.toNat]?.getD z) ((d.drop b.toNat)[(i-1).toNat]?.getD z)=false):Cin q l b (i+1) (k+1) (d.set k.toNat ((d.drop b.toNat)[i.toNat]?.getD z)):=by
 rw[DK h (by omega) h1 h2,DK h (by omega) h1 h2] at hq
 rw[show b+(i-1)=b+i-1 by omega] at hq
 rw[DK h (by omega) h1 h2]
 refine⟨?_,?_⟩
 ·rw[show b+(i+1)=(b+i)+1 by omega,TT (by omega) h3 hq,h.1,FZ (z:=z) h4 (by rw[aL];omega)]
  rw[List.take_set_of_le (by omega),dE (by omega)];rfl
 ·have:=congrArg (List.drop 1) h.2
  rw[dA,dA] at this
  rw[show (b+i-1).toNat+1=(b+(i+1)-1).toNat by omega] at this
  rw[List.drop_set_of_lt (by omega)];exact this
theorem Ie {l d:List T} {b i k:Int} (h:Cin q l b i k d) (h1:(l.length:Int)≤b+i):d.take k.toNat=cpt q l:=by
 have:=h.1
 rw[cA (by omega)] at this;exact this.symm
theorem WB {l:List T} {k:Nat} {x:List T} (h:k≤l.length):(l.take k++x).take k=l.take k:=by
 rw[gV,cA (by rw[aZ];omega),aZ,show k-min k l.length=0 by omega];simp
end
end Go.Srt
end
section
namespace Go.Sky
open Go Go.Eng Go.Proofs
open Go.Srt
theorem OV (A_x:Option Addr) (c_x:Nat) (x:List Zs) (w:World) (hM:Sat ⟨w,XR [.inr (Own A_x c_x 89 6 (x.map Zs.c))]⟩ [.inr (Own A_x c_x 89 6 (x.map Zs.c))] w):Calls Tryz.prog 104 #[.slice A_x x.length c_x,.func (.func 105) #[] #[]] w (JH (Γ:=(List Zs)) ⟨w,XR [.inr (Own A_x c_x 89 6 (x.map Zs.c))]⟩ (fun _=>.tuple #[]) (fun g=>[.inr (Qm (g.length=x.length∧g=Wu x)),.inr (Own A_x c_x 89 6 (g.map Zs.c))])):=by
 exact CS A_x c_x _ x w hM
set_option maxHeartbeats 4000000 in
theorem Ig (A_s:Option Addr) (c_s:Nat) (s:List Zs) (w:World) (hM:Sat ⟨w,XR [.inr (Own A_s c_s 89 6 (s.map Zs.c))]⟩ [.inr (Own A_s c_s 89 6 (s.map Zs.c))] w):Calls Tryz.prog 106 #[.slice A_s s.length c_s] w (JH (Γ:=(List Zs)) ⟨w,XR [.inr (Own A_s c_s 89 6 (s.map Zs.c))]⟩ (fun g=>.slice A_s g.length c_s) (fun g=>[.inr (Qm (g=cpt Zs.eqb s)),.inr (Own A_s c_s 89 6 (g.map Zs.c))])):=by
 refine YS (w0:=⟨w,XR [Ow A_s c_s 89 6 (s.map Zs.c)]⟩) (vs:=[.slice A_s s.length c_s]) hM Tryz.func106 rfl Tryz.ntmps106 rfl (JG [(0,.slice A_s s.length c_s)] Kr (Gn (fun w hM=>hM.short_at 0 rfl) (fun s_s=>Zf (TL.run 1 [] [(0,.slice A_s s.length c_s)] rfl {} (Z1 (Zf (TL.run 3 [] [(0,.slice A_s s.length c_s),(8,.b (decide ((s.length:Int)<2)))] rfl {} (Zb rfl (TC.cond (decide ((s.length:Int)<2)) rfl Kr (fun h1=>?_) (fun h1=>?_))))))))))
 ·exact Zf (TL.run 2 [] [(2,.slice A_s s.length c_s)] rfl {} (Zb rfl (TC.ret (Zo (ZO (.inl rfl) s [] (.slice A_s s.length c_s) {} rfl (fun _ hM=>(hM.sub (sb 1)).fact (by have q0_:=(ZF h1);(try dsimp only);first|exact HL (by omega)|exact(by rw[s9];exact(WB (by omega)).trans ho1.2)|exact ho0)))))))
 ·refine Yg (TC.seq (Zf (TL.run 1 [] [(0,.slice A_s s.length c_s),(3,.i 1)] rfl {} (Zb rfl (JG [(0,.slice A_s s.length c_s),(3,.i 1)] Kr (TC.cut (S:=Unit) (fun (_:Unit)=>[(0,.slice A_s s.length c_s)]) (fun (_:Unit)=>[Ow A_s c_s 89 6 (s.map Zs.c)]) (fun (_:Unit)=>(s=cpt Zs.eqb s)) ?_ ?_))))))
  ·refine TC.block (TC.loop (X:=Int) (fun k_2=>[(0,.slice A_s s.length c_s),(3,.i k_2)]) (fun k_2=>[Ow A_s c_s 89 6 (s.map Zs.c)]) (fun k_2=>((s.length:Int)-k_2).toNat) (fun k_2=>((1≤k_2∧k_2≤(s.length:Int))∧cpt Zs.eqb (s.take k_2.toNat)=s.take k_2.toNat)) ?_ 1 (by have q0_:=(Zv h1);first|exact⟨by omega,Ib (by omega)⟩))
   rintro k_2 hv0
   refine TC.seq (Zf (TL.run 4 [] [(0,.slice A_s s.length c_s),(3,.i k_2),(13,.b (decide (k_2<(s.length:Int))))] rfl {} (Zb rfl (TC.cond (decide (k_2<(s.length:Int))) rfl Kr (fun h2=>?_) (fun h2=>?_)))))
   ·refine Yg (TC.seq (TC.block (TC.seq (Kx 10 Kr Kr Kr (TQ.run 2 [] [(0,.slice A_s s.length c_s),(3,.i k_2),(16,.slice A_s s.length c_s),(17,.i k_2)] rfl {} (U4 (sV (Instr.indexAt 83 (.slice A_s s.length c_s) (.i k_2))) (some 18) (.pointer (some (Ix A_s (k_2.toNat*6)))) [(0,.slice A_s s.length c_s),(3,.i k_2),(18,.pointer (some (Ix A_s (k_2.toNat*6))))] (fun w hM=>Zr (hM.rd_at 0 rfl) (by simp) Kr (by have q0_:=(Zv h1);have q1_:=(ZF h2);have x9:=hv0.1;exact sd) (by have q0_:=(Zv h1);have q1_:=(ZF h2);have x9:=hv0.1;exact sd)) rfl Kr Kr (U4 (sV (Instr.loadAt 89 (.pointer (some (Ix A_s (k_2.toNat*6)))))) (some 19) (Zs.v (s[k_2.toNat]?.getD Zs.zero)) [(0,.slice A_s s.length c_s),(3,.i k_2),(19,Zs.v (s[k_2.toNat]?.getD Zs.zero))] (fun w hM=>Z9 (n:=6) (off:=0) (i:=k_2.toNat) (Zs.v (s[k_2.toNat]?.getD Zs.zero)) (hM.rd_at 0 rfl) (Z6 (getD_at _ _ Zs.zero (by have q0_:=(Zv h1);have q1_:=(ZF h2);have x9:=hv0.1;exact sd))) Kr Kr Kr) rfl Kr Kr (TQ.run 7 [] [(0,.slice A_s s.length c_s),(3,.i k_2),(19,Zs.v (s[k_2.toNat]?.getD Zs.zero)),(20,.slice A_s s.length c_s),(22,.i (w64 (k_2-1)))] rfl {} (TQ.rw 22 (.i (w64 (k_2-1))) (.i (k_2-1)) Kr (int_eq (by have q0_:=(Zv h1);have q1_:=(ZF h2);have x9:=hv0.1;rw[Zt (x:=(k_2-1)) (by omega)])) (U4 (sV (Instr.indexAt 83 (.slice A_s s.length c_s) (.i (k_2-1)))) (some 23) (.pointer (some (Ix A_s ((k_2-1).toNat*6)))) [(0,.slice A_s s.length c_s),(3,.i k_2),(19,Zs.v (s[k_2.toNat]?.getD Zs.zero)),(23,.pointer (some (Ix A_s ((k_2-1).toNat*6))))] (fun w hM=>Zr (hM.rd_at 0 rfl) (by simp) Kr (by have q0_:=(Zv h1);have q1_:=(ZF h2);have x9:=hv0.1;exact sd) (by have q0_:=(Zv h1);have q1_:=(ZF h2);have x9:=hv0.1;exact sd)) rfl Kr Kr (U4 (sV (Instr.loadAt 89 (.pointer (some (Ix A_s ((k_2-1).toNat*6)))))) (some 24) (Zs.v (s[(k_2-1).toNat]?.getD Zs.zero)) [(0,.slice A_s s.length c_s),(3,.i k_2),(19,Zs.v (s[k_2.toNat]?.getD Zs.zero)),(24,Zs.v (s[(k_2-1).toNat]?.getD Zs.zero))] (fun w hM=>Z9 (n:=6) (off:=0) (i:=(k_2-1).toNat) (Zs.v (s[(k_2-1).toNat]?.getD Zs.zero)) (hM.rd_at 0 rfl) (Z6 (getD_at _ _ Zs.zero (by have q0_:=(Zv h1);have q1_:=(ZF h2);have x9:=hv0.1;exact sd))) Kr Kr Kr) rfl Kr Kr (U4 (sV (do eqGuard .eql 89 (.tmp 19) (.tmp 24) (Zs.v (s[k_2.toNat]?.getD Zs.zero)) (Zs.v (s[(k_2-1).toNat]?.getD Zs.zero));binOp .eql 89 (Zs.v (s[k_2.toNat]?.getD Zs.zero)) (Zs.v (s[(k_2-1).toNat]?.getD Zs.zero)))) (some 25) (.b (Zs.eqb (s[k_2.toNat]?.getD Zs.zero) (s[(k_2-1).toNat]?.getD Zs.zero))) [(0,.slice A_s s.length c_s),(3,.i k_2),(25,.b (Zs.eqb (s[k_2.toNat]?.getD Zs.zero) (s[(k_2-1).toNat]?.getD Zs.zero)))] (fun w hM=>Ej (b:=Zs.eqb (s[k_2.toNat]?.getD Zs.zero) (s[(k_2-1).toNat]?.getD Zs.zero)) Kr Kr w) rfl Kr Kr (Q1 rfl (TC.cond (Zs.eqb (s[k_2.toNat]?.getD Zs.zero) (s[(k_2-1).toNat]?.getD Zs.zero)) rfl Kr (fun h3=>?_) (fun h3=>?_)))))))))))))))
    ·refine Zf (TL.run 2 [] [(0,.slice A_s s.length c_s),(3,.i k_2),(26,.slice A_s s.length c_s),(27,.i k_2)] rfl {} ?_)
     obtain⟨A1,hA1⟩:∃ A0_,A0_=(if c_s=k_2.toNat then A_s else A_s.map (fun a=>a.add (k_2.toNat*6))):=⟨_,rfl⟩
     refine ZW (sV (Instr.sliceAt 83 (.slice A_s s.length c_s) (some (.i k_2)) none none)) (some 28) (.slice A1 ((s.drop k_2.toNat).length) (c_s-k_2.toNat)) [(0,.slice A_s s.length c_s),(3,.i k_2),(28,.slice A1 ((s.drop k_2.toNat).length) (c_s-k_2.toNat))] (fun w hM=>(Vv k_2.toNat s.length Kr (.inr ⟨_,_,rfl,(by have q0_:=(Zv h1);have q1_:=(ZF h2);have x9:=hv0.1;exact sd),rfl⟩) (.inl ⟨rfl,rfl⟩) (by have q0_:=(Zv h1);have q1_:=(ZF h2);have x9:=hv0.1;exact sd) (bL (aU _) (hM.le_at 0 rfl))).trans (by rw[hA1];have q0_:=(Zv h1);have q1_:=(ZF h2);have x9:=hv0.1;congr 3;simp only[aH])) Kr Kr (TL.run 4 [] [(0,.slice A_s s.length c_s),(3,.i k_2),(4,.slice A1 ((s.drop k_2.toNat).length) (c_s-k_2.toNat))] rfl {} (Z1 (Zf (TL.run 1 [] [(0,.slice A_s s.length c_s),(3,.i k_2),(4,.slice A1 ((s.drop k_2.toNat).length) (c_s-k_2.toNat)),(5,.i 1)] rfl {} (Zb rfl (JG [(0,.slice A_s s.length c_s),(3,.i k_2),(4,.slice A1 ((s.drop k_2.toNat).length) (c_s-k_2.toNat)),(5,.i 1)] Kr (TC.cut (S:=Int×(List Zs)) (fun (k_5,s_3)=>[(0,.slice A_s s_3.length c_s),(3,.i k_5)]) (fun (k_5,s_3)=>[Ow A_s c_s 89 6 (s_3.map Zs.c)]) (fun (k_5,s_3)=>((0≤k_5∧k_5≤(s.length:Int))∧s_3.take k_5.toNat=cpt Zs.eqb s)∧s_3.length=s.length) ?_ ?_)))))))
     ·refine TC.block (TC.loop (X:=Int×Int×(List Zs)) (fun (k_4,k2,s_2)=>[(0,.slice A_s s_2.length c_s),(3,.i k_4),(4,.slice A1 ((s.drop k_2.toNat).length) (c_s-k_2.toNat)),(5,.i k2)]) (fun (k_4,k2,s_2)=>[Ow A_s c_s 89 6 (s_2.map Zs.c)]) (fun (k_4,k2,s_2)=>((s.length:Int)-k2).toNat) (fun (k_4,k2,s_2)=>((1≤k2∧k_2+k2≤(s.length:Int)∧k_2≤k_4∧k_4+1≤k_2+k2)∧Cin Zs.eqb s k_2 k2 k_4 s_2)∧s_2.length=s.length) ?_ (k_2,1,s) ⟨(by have q0_:=(Zv h1);have q1_:=(ZF h2);have x9:=hv0.1;first|exact⟨by omega,SY hv0.2 (by omega) (by omega) (by first|assumption|exact F6 (by assumption)|exact F7 (by assumption))⟩),(by simp)⟩)
      rintro⟨k_4,k2,s_2⟩ ⟨hv1,lp⟩
      refine TC.seq (Zf (TL.run 4 [] [(0,.slice A_s s_2.length c_s),(3,.i k_4),(4,.slice A1 ((s.drop k_2.toNat).length) (c_s-k_2.toNat)),(5,.i k2),(32,.b (decide (k2<((s.drop k_2.toNat).length:Int))))] rfl {} (Zb rfl (TC.cond (decide (k2<((s.drop k_2.toNat).length:Int))) rfl Kr (fun h4=>?_) (fun h4=>?_)))))
      ·refine Yg (TC.seq (TC.block (TC.seq (Kx 10 Kr Kr Kr (TQ.run 2 [] [(0,.slice A_s s_2.length c_s),(3,.i k_4),(4,.slice A1 ((s.drop k_2.toNat).length) (c_s-k_2.toNat)),(5,.i k2),(35,.slice A1 ((s.drop k_2.toNat).length) (c_s-k_2.toNat)),(36,.i k2)] rfl {} (U4 (sV (Instr.indexAt 83 (.slice A1 ((s.drop k_2.toNat).length) (c_s-k_2.toNat)) (.i k2))) (some 37) (.pointer (some (Ix A1 (k2.toNat*6)))) [(0,.slice A_s s_2.length c_s),(3,.i k_4),(4,.slice A1 ((s.drop k_2.toNat).length) (c_s-k_2.toNat)),(5,.i k2),(37,.pointer (some (Ix A1 (k2.toNat*6))))] (fun w hM=>Zr (by have u9:=hM.rd_at 0 rfl;have pb:=hM.le_at 0 rfl;rw[hA1];exact u9.dropMap k_2.toNat pb) (by simp only[aD,aH];first|rfl|omega) Kr (by have q0_:=(Zv h1);have q1_:=(ZF h2);have q2_:=(ZF h4);have x9:=hv0.1;have k7:=hv1.1;have kd_:=aH (i:=(k_2).toNat) (l:=s);have ke_:=aH (i:=(k_2).toNat) (l:=s_2);exact sd) (by have q0_:=(Zv h1);have q1_:=(ZF h2);have q2_:=(ZF h4);have x9:=hv0.1;have k7:=hv1.1;have kd_:=aH (i:=(k_2).toNat) (l:=s);have ke_:=aH (i:=(k_2).toNat) (l:=s_2);exact sd)) rfl Kr Kr (U4 (sV (Instr.loadAt 89 (.pointer (some (Ix A1 (k2.toNat*6)))))) (some 38) (Zs.v ((s_2.drop k_2.toNat)[k2.toNat]?.getD Zs.zero)) [(0,.slice A_s s_2.length c_s),(3,.i k_4),(4,.slice A1 ((s.drop k_2.toNat).length) (c_s-k_2.toNat)),(5,.i k2),(38,Zs.v ((s_2.drop k_2.toNat)[k2.toNat]?.getD Zs.zero))] (fun w hM=>Z9 (n:=6) (off:=0) (i:=k2.toNat) (Zs.v ((s_2.drop k_2.toNat)[k2.toNat]?.getD Zs.zero)) (by have u9:=hM.rd_at 0 rfl;have pb:=hM.le_at 0 rfl;rw[hA1];exact u9.dropMap k_2.toNat pb) (Z6 (getD_at _ _ Zs.zero (by have q0_:=(Zv h1);have q1_:=(ZF h2);have q2_:=(ZF h4);have x9:=hv0.1;have k7:=hv1.1;have kd_:=aH (i:=(k_2).toNat) (l:=s);have ke_:=aH (i:=(k_2).toNat) (l:=s_2);exact sd))) Kr Kr Kr) rfl Kr Kr (TQ.run 7 [] [(0,.slice A_s s_2.length c_s),(3,.i k_4),(4,.slice A1 ((s.drop k_2.toNat).length) (c_s-k_2.toNat)),(5,.i k2),(38,Zs.v ((s_2.drop k_2.toNat)[k2.toNat]?.getD Zs.zero)),(39,.slice A1 ((s.drop k_2.toNat).length) (c_s-k_2.toNat)),(41,.i (w64 (k2-1)))] rfl {} (TQ.rw 41 (.i (w64 (k2-1))) (.i (k2-1)) Kr (int_eq (by have q0_:=(Zv h1);have q1_:=(ZF h2);have q2_:=(ZF h4);have x9:=hv0.1;have k7:=hv1.1;have kd_:=aH (i:=(k_2).toNat) (l:=s);have ke_:=aH (i:=(k_2).toNat) (l:=s_2);rw[Zt (x:=(k2-1)) (by omega)])) (U4 (sV (Instr.indexAt 83 (.slice A1 ((s.drop k_2.toNat).length) (c_s-k_2.toNat)) (.i (k2-1)))) (some 42) (.pointer (some (Ix A1 ((k2-1).toNat*6)))) [(0,.slice A_s s_2.length c_s),(3,.i k_4),(4,.slice A1 ((s.drop k_2.toNat).length) (c_s-k_2.toNat)),(5,.i k2),(38,Zs.v ((s_2.drop k_2.toNat)[k2.toNat]?.getD Zs.zero)),(42,.pointer (some (Ix A1 ((k2-1).toNat*6))))] (fun w hM=>Zr (by have u9:=hM.rd_at 0 rfl;have pb:=hM.le_at 0 rfl;rw[hA1];exact u9.dropMap k_2.toNat pb) (by simp only[aD,aH];first|rfl|omega) Kr (by have q0_:=(Zv h1);have q1_:=(ZF h2);have q2_:=(ZF h4);have x9:=hv0.1;have k7:=hv1.1;have kd_:=aH (i:=(k_2).toNat) (l:=s);have ke_:=aH (i:=(k_2).toNat) (l:=s_2);exact sd) (by have q0_:=(Zv h1);have q1_:=(ZF h2);have q2_:=(ZF h4);have x9:=hv0.1;have k7:=hv1.1;have kd_:=aH (i:=(k_2).toNat) (l:=s);have ke_:=aH (i:=(k_2).toNat) (l:=s_2);exact sd)) rfl Kr Kr (U4 (sV (Instr.loadAt 89 (.pointer (some (Ix A1 ((k2-1).toNat*6)))))) (some 43) (Zs.v ((s_2.drop k_2.toNat)[(k2-1).toNat]?.getD Zs.zero)) [(0,.slice A_s s_2.length c_s),(3,.i k_4),(4,.slice A1 ((s.drop k_2.toNat).length) (c_s-k_2.toNat)),(5,.i k2),(38,Zs.v ((s_2.drop k_2.toNat)[k2.toNat]?.getD Zs.zero)),(43,Zs.v ((s_2.drop k_2.toNat)[(k2-1).toNat]?.getD Zs.zero))] (fun w hM=>Z9 (n:=6) (off:=0) (i:=(k2-1).toNat) (Zs.v ((s_2.drop k_2.toNat)[(k2-1).toNat]?.getD Zs.zero)) (by have u9:=hM.rd_at 0 rfl;have pb:=hM.le_at 0 rfl;rw[hA1];exact u9.dropMap k_2.toNat pb) (Z6 (getD_at _ _ Zs.zero (by have q0_:=(Zv h1);have q1_:=(ZF h2);have q2_:=(ZF h4);have x9:=hv0.1;have k7:=hv1.1;have kd_:=aH (i:=(k_2).toNat) (l:=s);have ke_:=aH (i:=(k_2).toNat) (l:=s_2);exact sd))) Kr Kr Kr) rfl Kr Kr (U4 (sV (do eqGuard .neq 89 (.tmp 38) (.tmp 43) (Zs.v ((s_2.drop k_2.toNat)[k2.toNat]?.getD Zs.zero)) (Zs.v ((s_2.drop k_2.toNat)[(k2-1).toNat]?.getD Zs.zero));binOp .neq 89 (Zs.v ((s_2.drop k_2.toNat)[k2.toNat]?.getD Zs.zero)) (Zs.v ((s_2.drop k_2.toNat)[(k2-1).toNat]?.getD Zs.zero)))) (some 44) (.b (!(Zs.eqb ((s_2.drop k_2.toNat)[k2.toNat]?.getD Zs.zero) ((s_2.drop k_2.toNat)[(k2-1).toNat]?.getD Zs.zero)))) [(0,.slice A_s s_2.length c_s),(3,.i k_4),(4,.slice A1 ((s.drop k_2.toNat).length) (c_s-k_2.toNat)),(5,.i k2),(44,.b (!(Zs.eqb ((s_2.drop k_2.toNat)[k2.toNat]?.getD Zs.zero) ((s_2.drop k_2.toNat)[(k2-1).toNat]?.getD Zs.zero))))] (fun w hM=>Tj (b:=Zs.eqb ((s_2.drop k_2.toNat)[k2.toNat]?.getD Zs.zero) ((s_2.drop k_2.toNat)[(k2-1).toNat]?.getD Zs.zero)) Kr Kr w) rfl Kr Kr (Q1 rfl (TC.cond (!(Zs.eqb ((s_2.drop k_2.toNat)[k2.toNat]?.getD Zs.zero) ((s_2.drop k_2.toNat)[(k2-1).toNat]?.getD Zs.zero))) rfl Kr (fun h5=>?_) (fun h5=>?_)))))))))))))))
       ·exact Zf (TL.run 4 [] [(0,.slice A_s s_2.length c_s),(3,.i k_4),(4,.slice A1 ((s.drop k_2.toNat).length) (c_s-k_2.toNat)),(5,.i k2),(45,.slice A_s s_2.length c_s),(46,.i k_4),(47,.slice A1 ((s.drop k_2.toNat).length) (c_s-k_2.toNat)),(48,.i k2)] rfl {} (ZW (sV (Instr.indexAt 83 (.slice A1 ((s.drop k_2.toNat).length) (c_s-k_2.toNat)) (.i k2))) (some 49) (.pointer (some (Ix A1 (k2.toNat*6)))) [(0,.slice A_s s_2.length c_s),(3,.i k_4),(4,.slice A1 ((s.drop k_2.toNat).length) (c_s-k_2.toNat)),(5,.i k2),(45,.slice A_s s_2.length c_s),(46,.i k_4),(49,.pointer (some (Ix A1 (k2.toNat*6))))] (fun w hM=>Zr (by have u9:=hM.rd_at 0 rfl;have pb:=hM.le_at 0 rfl;rw[hA1];exact u9.dropMap k_2.toNat pb) (by simp only[aD,aH];first|rfl|omega) Kr (by have q0_:=(Zv h1);have q1_:=(ZF h2);have q2_:=(ZF h4);have x9:=hv0.1;have k7:=hv1.1;have kd_:=aH (i:=(k_2).toNat) (l:=s);have ke_:=aH (i:=(k_2).toNat) (l:=s_2);exact sd) (by have q0_:=(Zv h1);have q1_:=(ZF h2);have q2_:=(ZF h4);have x9:=hv0.1;have k7:=hv1.1;have kd_:=aH (i:=(k_2).toNat) (l:=s);have ke_:=aH (i:=(k_2).toNat) (l:=s_2);exact sd)) Kr Kr (ZW (sV (Instr.loadAt 89 (.pointer (some (Ix A1 (k2.toNat*6)))))) (some 50) (Zs.v ((s_2.drop k_2.toNat)[k2.toNat]?.getD Zs.zero)) [(0,.slice A_s s_2.length c_s),(3,.i k_4),(4,.slice A1 ((s.drop k_2.toNat).length) (c_s-k_2.toNat)),(5,.i k2),(45,.slice A_s s_2.length c_s),(46,.i k_4),(50,Zs.v ((s_2.drop k_2.toNat)[k2.toNat]?.getD Zs.zero))] (fun w hM=>Z9 (n:=6) (off:=0) (i:=k2.toNat) (Zs.v ((s_2.drop k_2.toNat)[k2.toNat]?.getD Zs.zero)) (by have u9:=hM.rd_at 0 rfl;have pb:=hM.le_at 0 rfl;rw[hA1];exact u9.dropMap k_2.toNat pb) (Z6 (getD_at _ _ Zs.zero (by have q0_:=(Zv h1);have q1_:=(ZF h2);have q2_:=(ZF h4);have x9:=hv0.1;have k7:=hv1.1;have kd_:=aH (i:=(k_2).toNat) (l:=s);have ke_:=aH (i:=(k_2).toNat) (l:=s_2);exact sd))) Kr Kr Kr) Kr Kr (ZW (sV (Instr.indexAt 83 (.slice A_s s_2.length c_s) (.i k_4))) (some 51) (.pointer (some (Ix A_s (k_4.toNat*6)))) [(0,.slice A_s s_2.length c_s),(3,.i k_4),(4,.slice A1 ((s.drop k_2.toNat).length) (c_s-k_2.toNat)),(5,.i k2),(50,Zs.v ((s_2.drop k_2.toNat)[k2.toNat]?.getD Zs.zero)),(51,.pointer (some (Ix A_s (k_4.toNat*6))))] (fun w hM=>Zr (hM.rd_at 0 rfl) (by simp) Kr (by have q0_:=(Zv h1);have q1_:=(ZF h2);have q2_:=(ZF h4);have x9:=hv0.1;have k7:=hv1.1;have kd_:=aH (i:=(k_2).toNat) (l:=s);have ke_:=aH (i:=(k_2).toNat) (l:=s_2);exact sd) (by have q0_:=(Zv h1);have q1_:=(ZF h2);have q2_:=(ZF h4);have x9:=hv0.1;have k7:=hv1.1;have kd_:=aH (i:=(k_2).toNat) (l:=s);have ke_:=aH (i:=(k_2).toNat) (l:=s_2);exact sd)) Kr Kr (Eh (Γ:=Unit) (sU (Instr.storeAt 89 (.pointer (some ((Ix A_s (k_4.toNat*6)).add 0))) (Zs.v ((s_2.drop k_2.toNat)[k2.toNat]?.getD Zs.zero)))) none (fun _=>[Ow A_s c_s 89 6 ((s_2.set k_4.toNat ((s_2.drop k_2.toNat)[k2.toNat]?.getD Zs.zero)).map Zs.c)]) (fun _=>[(0,.slice A_s s_2.length c_s),(3,.i k_4),(4,.slice A1 ((s.drop k_2.toNat).length) (c_s-k_2.toNat)),(5,.i k2)]) (Y2 (n:=6) (off:=0) (Zs.v ((s_2.drop k_2.toNat)[k2.toNat]?.getD Zs.zero)) 0 ((s_2.set k_4.toNat ((s_2.drop k_2.toNat)[k2.toNat]?.getD Zs.zero)).map Zs.c) rfl (Z6 (getD_at _ _ Zs.zero (by have q0_:=(Zv h1);have q1_:=(ZF h2);have q2_:=(ZF h4);have x9:=hv0.1;have k7:=hv1.1;have kd_:=aH (i:=(k_2).toNat) (l:=s);have ke_:=aH (i:=(k_2).toNat) (l:=s_2);exact sd))) Kr Kr Kr Kr (YJ Kr)) Kr (fun _=>Kr) (fun _=>TL.rw 0 (.slice A_s s_2.length c_s) (.slice A_s ((s_2.set k_4.toNat ((s_2.drop k_2.toNat)[k2.toNat]?.getD Zs.zero)).length) c_s) Kr (by simp only[aL]) (Zb rfl (TC.region (TL.run 3 [] [(0,.slice A_s ((s_2.set k_4.toNat ((s_2.drop k_2.toNat)[k2.toNat]?.getD Zs.zero)).length) c_s),(3,.i (w64 (k_4+1))),(4,.slice A1 ((s.drop k_2.toNat).length) (c_s-k_2.toNat)),(5,.i k2)] rfl {} (TL.rw 3 (.i (w64 (k_4+1))) (.i (k_4+1)) Kr (int_eq (by have q0_:=(Zv h1);have q1_:=(ZF h2);have q2_:=(ZF h4);have x9:=hv0.1;have k7:=hv1.1;have kd_:=aH (i:=(k_2).toNat) (l:=s);have ke_:=aH (i:=(k_2).toNat) (l:=s_2);rw[Zt (x:=(k_4+1)) (by omega)])) (Zw rfl (ZY (Z3 (TC.region (TL.run 3 [] [(0,.slice A_s ((s_2.set k_4.toNat ((s_2.drop k_2.toNat)[k2.toNat]?.getD Zs.zero)).length) c_s),(3,.i (k_4+1)),(4,.slice A1 ((s.drop k_2.toNat).length) (c_s-k_2.toNat)),(5,.i (w64 (k2+1)))] rfl {} (TL.rw 5 (.i (w64 (k2+1))) (.i (k2+1)) Kr (int_eq (by have q0_:=(Zv h1);have q1_:=(ZF h2);have q2_:=(ZF h4);have x9:=hv0.1;have k7:=hv1.1;have kd_:=aH (i:=(k_2).toNat) (l:=s);have ke_:=aH (i:=(k_2).toNat) (l:=s_2);rw[Zt (x:=(k2+1)) (by omega)])) (Zw rfl (Z4 (x:=(k_4,k2,s_2)) ((k_4+1),(k2+1),(s_2.set k_4.toNat ((s_2.drop k_2.toNat)[k2.toNat]?.getD Zs.zero))) ⟨(by have q0_:=(Zv h1);have q1_:=(ZF h2);have q2_:=(ZF h4);have x9:=hv0.1;have k7:=hv1.1;have kd_:=aH (i:=(k_2).toNat) (l:=s);have ke_:=aH (i:=(k_2).toNat) (l:=s_2);first|exact⟨by omega,OU hv1.2 (by omega) (by omega) (by omega) (by omega) (by omega) (by omega) (by first|assumption|exact F6 (by assumption)|exact F7 (by assumption))⟩|exact⟨by omega,OT hv1.2 (by omega) (by omega) (by omega) (by first|assumption|exact F6 (by assumption)|exact F7 (by assumption))⟩),(by first|rfl|omega|(simp only[aL];omega))⟩ (by have q0_:=(Zv h1);have q1_:=(ZF h2);have q2_:=(ZF h4);have x9:=hv0.1;have k7:=hv1.1;have kd_:=aH (i:=(k_2).toNat) (l:=s);have ke_:=aH (i:=(k_2).toNat) (l:=s_2);(try dsimp only);omega) Kr (sb 1)))))))))))))))))))
       ·exact TC.skip (ZY (Z3 (TC.region (TL.run 3 [] [(0,.slice A_s s_2.length c_s),(3,.i k_4),(4,.slice A1 ((s.drop k_2.toNat).length) (c_s-k_2.toNat)),(5,.i (w64 (k2+1)))] rfl {} (TL.rw 5 (.i (w64 (k2+1))) (.i (k2+1)) Kr (int_eq (by have q0_:=(Zv h1);have q1_:=(ZF h2);have q2_:=(ZF h4);have x9:=hv0.1;have k7:=hv1.1;have kd_:=aH (i:=(k_2).toNat) (l:=s);have ke_:=aH (i:=(k_2).toNat) (l:=s_2);rw[Zt (x:=(k2+1)) (by omega)])) (Zw rfl (Z4 (x:=(k_4,k2,s_2)) (k_4,(k2+1),s_2) ⟨(by have q0_:=(Zv h1);have q1_:=(ZF h2);have q2_:=(ZF h4);have x9:=hv0.1;have k7:=hv1.1;have kd_:=aH (i:=(k_2).toNat) (l:=s);have ke_:=aH (i:=(k_2).toNat) (l:=s_2);first|exact⟨by omega,OU hv1.2 (by omega) (by omega) (by omega) (by omega) (by omega) (by omega) (by first|assumption|exact F6 (by assumption)|exact F7 (by assumption))⟩|exact⟨by omega,OT hv1.2 (by omega) (by omega) (by omega) (by first|assumption|exact F6 (by assumption)|exact F7 (by assumption))⟩),(by first|rfl|omega|(simp only[aL];omega))⟩ (by have q0_:=(Zv h1);have q1_:=(ZF h2);have q2_:=(ZF h4);have x9:=hv0.1;have k7:=hv1.1;have kd_:=aH (i:=(k_2).toNat) (l:=s);have ke_:=aH (i:=(k_2).toNat) (l:=s_2);(try dsimp only);omega) Kr (sb 1))))))))
      ·refine TC.exit (ZT (ZT (Z0 ?_)))
       exact TE.cut (k_4,s_2) ⟨(by have q0_:=(Zv h1);have q1_:=(ZF h2);have q2_:=(Zv h4);have x9:=hv0.1;have k7:=hv1.1;have kd_:=aH (i:=(k_2).toNat) (l:=s);have ke_:=aH (i:=(k_2).toNat) (l:=s_2);first|exact⟨by omega,Ie hv1.2 (by omega)⟩),(by first|rfl|omega|(simp only[aL];omega))⟩ Kr (sb 1)
     ·rintro⟨k_5,s_3⟩ ⟨ho1,lq⟩
      refine YC (TL.run 2 [] [(0,.slice A_s s_3.length c_s),(3,.i k_5),(54,.slice A_s s_3.length c_s),(55,.i k_5)] rfl {} ?_)
      obtain⟨A1_2,gx⟩:∃ A0_,A0_=(if c_s=k_5.toNat then A_s else A_s.map (fun a=>a.add (k_5.toNat*6))):=⟨_,rfl⟩
      refine ZW (sV (Instr.sliceAt 83 (.slice A_s s_3.length c_s) (some (.i k_5)) none none)) (some 56) (.slice A1_2 ((s_3.drop k_5.toNat).length) (c_s-k_5.toNat)) [(0,.slice A_s s_3.length c_s),(3,.i k_5),(56,.slice A1_2 ((s_3.drop k_5.toNat).length) (c_s-k_5.toNat))] (fun w hM=>(Vv k_5.toNat s_3.length Kr (.inr ⟨_,_,rfl,(by have q0_:=(Zv h1);have q1_:=(ZF h2);have x9:=hv0.1;have pf:=ho1.1;exact sd),rfl⟩) (.inl ⟨rfl,rfl⟩) (by have q0_:=(Zv h1);have q1_:=(ZF h2);have x9:=hv0.1;have pf:=ho1.1;exact sd) (bL (aU _) (hM.le_at 0 rfl))).trans (by rw[gx];have q0_:=(Zv h1);have q1_:=(ZF h2);have x9:=hv0.1;have pf:=ho1.1;congr 3;simp only[aH])) Kr Kr ?_
      obtain⟨s_4,s9⟩:∃ x_,x_=(s_3.take k_5.toNat++List.replicate (s_3.length-k_5.toNat) Zs.zero):=⟨_,rfl⟩
      have dw:s_4.length=s_3.length:=by have k_:k_5.toNat≤s_3.length:=(by have q0_:=(Zv h1);have q1_:=(ZF h2);have x9:=hv0.1;have pf:=ho1.1;exact sd);rw[s9];simp only[aW,aZ,bA];omega
      refine Fa (Γ:=Unit) (sV (Builtin.clear_ #[83] 0 #[.slice A1_2 ((s_3.drop k_5.toNat).length) (c_s-k_5.toNat)])) none (fun _=>.tuple #[]) (fun _=>[Ow A_s c_s 89 6 (s_4.map Zs.c)]) (fun _=>[(0,.slice A_s s_3.length c_s),(3,.i k_5)]) (by rw[s9];exact WQ (c:=Zs.c) (bytes:=48) (sz:=6) Zs.zero 0 k_5.toNat ((c_s-k_5.toNat)) ((s_3.drop k_5.toNat).length) 0 Kr Kr Zs.one rfl gx (by simp only[aH]) (by have q0_:=(Zv h1);have q1_:=(ZF h2);have x9:=hv0.1;have pf:=ho1.1;exact sd)) Kr (fun _=>Kr) (fun _=>TL.rw 0 (.slice A_s s_3.length c_s) (.slice A_s s_4.length c_s) Kr (by rw[dw]) (Zz (TL.run 2 [] [(57,.slice A_s s_4.length c_s),(58,.i k_5)] rfl {} ?_)))
      obtain⟨A1_3,tv⟩:∃ A0_,A0_=(if c_s=0 then A_s else A_s.map (fun a=>a.add (0*6))):=⟨_,rfl⟩
      refine ZW (sV (Instr.sliceAt 83 (.slice A_s s_4.length c_s) none (some (.i k_5)) none)) (some 59) (.slice A1_3 ((s_4.take k_5.toNat).length) (c_s-0)) [(59,.slice A1_3 ((s_4.take k_5.toNat).length) (c_s-0))] (fun w hM=>(Vv 0 k_5.toNat Kr (.inl ⟨rfl,rfl⟩) (.inr ⟨_,_,rfl,(by have q0_:=(Zv h1);have q1_:=(ZF h2);have x9:=hv0.1;have pf:=ho1.1;exact sd),rfl⟩) (by have q0_:=(Zv h1);have q1_:=(ZF h2);have x9:=hv0.1;have pf:=ho1.1;exact sd) (bL (by have q0_:=(Zv h1);have q1_:=(ZF h2);have x9:=hv0.1;have pf:=ho1.1;exact sd) (hM.le_at 0 rfl))).trans (by rw[tv];have q0_:=(Zv h1);have q1_:=(ZF h2);have x9:=hv0.1;have pf:=ho1.1;congr 3;first|(simp only[aZ] <;> omega)|(simp only[aZ] at * <;> omega))) Kr Kr (TL.run 4 [] [(2,.slice A1_3 ((s_4.take k_5.toNat).length) (c_s-0))] rfl {} (Zb rfl (TC.ret (ZL (Zo (Zo (ZL (Zo (Zo ?_)))))))))
      exact Yi [Ow A_s c_s 89 6 ((s_4.take k_5.toNat).map Zs.c)] (fun _ hM=>by have h_:=hM.takerow k_5.toNat 0 rfl (by simp only[aD];exact(by have q0_:=(Zv h1);have q1_:=(ZF h2);have x9:=hv0.1;have pf:=ho1.1;exact sg));rw[← fQ] at h_;exact h_) (ZO (.inl rfl) (s_4.take k_5.toNat) [] (.slice A1_3 ((s_4.take k_5.toNat).length) (c_s-0)) {} (by rw[tv,Am];rfl) (fun _ hM=>(hM.sub (sb 1)).fact (by have q0_:=(Zv h1);have q1_:=(ZF h2);have x9:=hv0.1;have pf:=ho1.1;(try dsimp only);first|exact HL (by omega)|exact(by rw[s9];exact(WB (by omega)).trans ho1.2)|exact ho0)))
    ·exact TC.skip (ZY (Z3 (TC.region (TL.run 3 [] [(0,.slice A_s s.length c_s),(3,.i (w64 (k_2+1)))] rfl {} (TL.rw 3 (.i (w64 (k_2+1))) (.i (k_2+1)) Kr (int_eq (by have q0_:=(Zv h1);have q1_:=(ZF h2);have x9:=hv0.1;rw[Zt (x:=(k_2+1)) (by omega)])) (Zw rfl (Z4 (x:=k_2) (k_2+1) (by have q0_:=(Zv h1);have q1_:=(ZF h2);have x9:=hv0.1;first|exact⟨by omega,OS hv0.2 (by omega) (by omega) (by first|assumption|exact F6 (by assumption)|exact F7 (by assumption))⟩) (by have q0_:=(Zv h1);have q1_:=(ZF h2);have x9:=hv0.1;(try dsimp only);omega) Kr (sb 1))))))))
   ·refine TC.exit (ZT (ZT (Z0 ?_)))
    exact TE.cut () (by have q0_:=(Zv h1);have q1_:=(Zv h2);have x9:=hv0.1;first|exact Ic hv0.2 (by omega)) Kr (sb 1)
  ·intro _ ho0
   exact YC (TL.run 2 [] [(2,.slice A_s s.length c_s)] rfl {} (Zb rfl (TC.ret (ZO (.inl rfl) s [] (.slice A_s s.length c_s) {} rfl (fun _ hM=>(hM.sub (sb 1)).fact (by have q0_:=(Zv h1);(try dsimp only);first|exact HL (by omega)|exact(by rw[s9];exact(WB (by omega)).trans ho1.2)|exact ho0))))))
def Jf (x:List Zs):List Zs→Nat→((Unit) ⊕ ((List Zs)×Int))
 | [],_=>.inl ()
 | x_2::xs,k_2=>let r1:=Ym x_2
  cond (r1 != 0) (
   .inr ([],r1)) (
   cond (decide ((k_2:Int)>0)) (
    cond (decide (x_2.Time<((x[(k_2-1)]?.getD Zs.zero).Time))) (
     .inr ([],12)) (
     Jf x xs (k_2+1))) (
    Jf x xs (k_2+1)))
def Jg:List (List Zs)→Nat→(List Zs)→((List Zs) ⊕ ((List Zs)×Int))
 | [],_,out=>.inl out
 | x::xs,k,out=>cond (decide ((x.length:Int)>256)) (
   .inr ([],2)) (
   Sum.elim (fun _ =>
    Jg xs (k+1) (out++x)) (fun r=>.inr r) (Jf x x 0))
def Xc (zi:List (List Zs)):List Zs×Int :=
 cond (decide ((zi.length:Int)>4)) (
  ([],2)) (
  Sum.elim (fun qk =>
   let r2:=Wu qk
   let r3:=cpt Zs.eqb r2
   (r3,0)) (fun r=>r) (Jg zi 0 ([]:List Zs)))
set_option maxHeartbeats 4000000 in
theorem DL (A_feeds:Option Addr) (zl:Nat) (zi:List (List Zs)) (qs:List (Sl Zs)) (w:World) (gj:Rd w 1 A_feeds (qs.map Sl.c)) (_hc_feeds:zi.length≤zl) (k8:∀ s∈qs,s.rd w 6 Zs.c) (va:zi=qs.map Sl.l):Calls Tryz.prog 49 #[.slice A_feeds zi.length zl] w (JH (Γ:=(Option Addr×Nat)) (cx w) (fun g=>.tuple #[.slice g.1 ((Xc zi).1.length) g.2,.int .i64 ((Xc zi).2)]) (fun g=>[.inr (Own g.1 g.2 89 6 (((Xc zi).1).map Zs.c))])):=by
 have ti:=gj.short;rw[← Jt va] at ti
 refine Zp (vs:=[.slice A_feeds zi.length zl]) (w:=w) Tryz.func49 rfl Tryz.ntmps49 rfl (Zf (Zc 2 [] [(2,.slice none 0 0),(3,.i 0)] {} (Z1 (Zf (Zc 3 [] [(12,.b (decide ((zi.length:Int)>4)))] {} (Zb rfl (TC.cond (decide ((zi.length:Int)>4)) rfl Kr (fun h1=>?_) (fun h1=>?_))))))))
 ·refine Zf (Zc 2 [] [(2,.slice none 0 0),(3,.i 2)] {} (Zb rfl (TC.ret (Zo ?_))))
  have e:Xc zi=([],2):=by unfold Xc;exact Zm h1 (rfl)
  refine Yi [Ow none 0 89 6 (([]:List Zs).map Zs.c)] (fun _ hM=>hM.emptyrow none 89 6) ?_
  rw[e]
  exact ZO (.inl rfl) (none,0) [] (.tuple #[.slice none 0 0,.i 2]) {} rfl (fun _ hM=>hM.sub (sb 1))
 ·have vm:=(Zv h1)
  refine Yc (Zc 1 [] [(4,.slice none 0 0)] {} (Z1 (Zf (Zc 3 [] [(13,.slice A_feeds zi.length zl),(14,.i (zi.length:Int)),(15,.i 0)] {} (Zb rfl (Q0 [Ow none 0 89 6 (([]:List Zs).map Zs.c)] (fun _ hM=>hM.emptyrow none 89 6) ?_))))))
  obtain⟨R3,hR⟩:∃ R,R=Jg zi 0 ([]:List Zs):=⟨_,rfl⟩
  refine TC.cut (S:=(List Zs)×(Option Addr)×Nat) (fun (qk,A_out_2,qe)=>[(4,.slice A_out_2 qk.length qe)]) (fun (qk,A_out_2,qe)=>[Ow A_out_2 qe 89 6 (qk.map Zs.c)]) (fun (qk,A_out_2,qe)=>R3=.inl qk∧qk.length≤256*zi.length) ?_ ?_
  ·refine TC.block (Xp (X:=Nat×(List Zs)×(Option Addr)×Nat) (fun (k,out,A_out,qh)=>[(4,.slice A_out out.length qh),(13,.slice A_feeds zi.length zl),(14,.i (zi.length:Int)),(15,.i (k:Int))]) (fun (k,out,A_out,qh)=>[Ow A_out qh 89 6 (out.map Zs.c)]) (fun (k,out,A_out,qh)=>zi.length-k) (fun (k,out,A_out,qh)=>k≤zi.length∧R3=Jg (zi.drop k) k out∧out.length≤256*k) ?_ (0,([]:List Zs),none,0) ⟨aP _,hR,sz⟩ Kr (sb 1))
   rintro⟨k,out,A_out,qh⟩ ⟨hk,hI,kn⟩
   refine Zf (Zc 1 [] [(16,.b (decide ((k:Int)<(zi.length:Int))))] {} (Z1 (TC.cond (decide ((k:Int)<(zi.length:Int))) rfl Kr (fun h2=>?_) (fun h2=>?_))))
   ·have hlt:=ltN h2
    obtain⟨x,hx⟩:=elN hlt
    have hd:=drop_at hx
    refine Yg (TC.seq (TC.block (Zf (TL.v (sV (Instr.indexAt 128 (.slice A_feeds zi.length zl) (.i (k:Int)))) 17 (.pointer (some (Ix A_feeds (k*1)))) (fun w hM=>Zr (gj.sat hM) (Jt va) Kr sd sd) {} ?_))))
    have w5:=(JD (XS k8 k) (JW va hx)).short;rw[aD] at w5
    refine TL.v (sV (Instr.loadAt 83 (.pointer (some (Ix A_feeds (k*1)))))) 18 (.slice ((qs[k]?.getD Sl.zero).A) x.length ((qs[k]?.getD Sl.zero).cap)) (fun w hM=>(by have h:=Zu (P:=Tryz.prog) (T:=83) (off:=0) (i:=k) (.slice (qs[k]?.getD Sl.zero).A (qs[k]?.getD Sl.zero).l.length (qs[k]?.getD Sl.zero).cap) (gj.sat hM) (Z6 (getD_at _ _ Sl.zero (U9 va (aK.1 hx).1))) Kr Kr;rw[(JW va hx)] at h;exact h)) {} ?_
    refine Zc 3 [] [(6,.slice ((qs[k]?.getD Sl.zero).A) x.length ((qs[k]?.getD Sl.zero).cap))] {} (Z1 (Zf (Zc 3 [] [(21,.b (decide ((x.length:Int)>256)))] {} (Zb rfl (TC.cond (decide ((x.length:Int)>256)) rfl Kr (fun h3=>?_) (fun h3=>?_))))))
    ·refine Zf (Zc 2 [] [(2,.slice none 0 0),(3,.i 2)] {} (Zb rfl (TC.ret (Zo (ZL (Zo (Zo (ZL (Zo (Zo ?_))))))))))
     have e:Xc zi=([],2):=by unfold Xc;exact Ze h1 (Xh (hR.symm.trans (hI.trans (by rw[hd];exact Zm h3 (rfl)))) rfl)
     refine Yi [Ow none 0 89 6 (([]:List Zs).map Zs.c),Ow A_out qh 89 6 (out.map Zs.c)] (fun _ hM=>hM.emptyrow none 89 6) ?_
     rw[e]
     exact ZO (.inl rfl) (none,0) [] (.tuple #[.slice none 0 0,.i 2]) {} rfl (fun _ hM=>hM.sub (sb 1))
    ·have y2:=(Zv h3)
     refine Yg (TC.seq (Zf (Zc 3 [] [(22,.slice ((qs[k]?.getD Sl.zero).A) x.length ((qs[k]?.getD Sl.zero).cap)),(23,.i (x.length:Int)),(24,.i 0)] {} (Zb rfl ?_))))
     obtain⟨R5,xo⟩:∃ R,R=Jf x x 0:=⟨_,rfl⟩
     refine TC.cut (S:=Unit) (fun (_:Unit)=>[(4,.slice A_out out.length qh),(6,.slice ((qs[k]?.getD Sl.zero).A) x.length ((qs[k]?.getD Sl.zero).cap)),(13,.slice A_feeds zi.length zl),(14,.i (zi.length:Int)),(15,.i (k:Int))]) (fun (_:Unit)=>[Ow A_out qh 89 6 (out.map Zs.c)]) (fun (_:Unit)=>R5=.inl ()) ?_ ?_
     ·refine TC.block (Xp (X:=Nat) (fun k_2=>[(4,.slice A_out out.length qh),(6,.slice ((qs[k]?.getD Sl.zero).A) x.length ((qs[k]?.getD Sl.zero).cap)),(13,.slice A_feeds zi.length zl),(14,.i (zi.length:Int)),(15,.i (k:Int)),(22,.slice ((qs[k]?.getD Sl.zero).A) x.length ((qs[k]?.getD Sl.zero).cap)),(23,.i (x.length:Int)),(24,.i (k_2:Int))]) (fun k_2=>[Ow A_out qh 89 6 (out.map Zs.c)]) (fun k_2=>x.length-k_2) (fun k_2=>k_2≤x.length∧R5=Jf x (x.drop k_2) k_2) ?_ 0 ⟨aP _,xo⟩ Kr (sb 1))
      rintro k_2 ⟨y4,xg⟩
      refine Zf (Zc 1 [] [(25,.b (decide ((k_2:Int)<(x.length:Int))))] {} (Z1 (TC.cond (decide ((k_2:Int)<(x.length:Int))) rfl Kr (fun h4=>?_) (fun h4=>?_))))
      ·have zk:=ltN h4
       obtain⟨x_2,jf⟩:=elN zk
       have zr:=drop_at jf
       refine Yg (TC.seq (TC.block (Zf (Zc 1 [] [(26,.i (k_2:Int))] {} (TL.v (sV (Instr.indexAt 83 (.slice ((qs[k]?.getD Sl.zero).A) x.length ((qs[k]?.getD Sl.zero).cap)) (.i (k_2:Int)))) 27 (.pointer (some ((((qs[k]?.getD Sl.zero).A).getD Yz).add (k_2*6)))) (fun w hM=>Zr (JD ((XS k8 k).sat hM) (JW va hx)) (by simp) Kr sd sd) {} (TL.v (sV (Instr.loadAt 89 (.pointer (some ((((qs[k]?.getD Sl.zero).A).getD Yz).add (k_2*6)))))) 28 (Zs.v x_2) (fun w hM=>Z9 (n:=6) (off:=0) (i:=k_2) (Zs.v x_2) (JD ((XS k8 k).sat hM) (JW va hx)) (Z6 jf) Kr Kr Kr) {} (ZA 8 (fun b1=>.p0 b1) (fun b1=>Bk b1 (Zs.c Zs.zero) 89) (fun b1=>{}) (fun b1=>Zc 5 [] [(7,.i (k_2:Int))] {} (Yp 0 (Bk b1 (Zs.c x_2) 89) (fun _=>{}) (Z1 (Zf (Zc 1 [0] [(29,Zs.v x_2)] {} (TL.c 30 (Ym x_2) (fun r1=>.i r1) (fun w _=>Vo x_2 w) {} (fun r1 hr1=>Zc 3 [] [(9,.i r1)] {} (Zz (Zc 2 [] [(32,.b (r1 != 0))] {} (Zb rfl (TC.cond (r1 != 0) rfl Kr (fun h5=>?_) (fun h5=>?_)))))))))))))))))))
       ·refine Zf (Zc 3 [] [(2,.slice none 0 0),(3,.i r1)] {} (Zb rfl (TC.ret (Zo (ZL (Zo (Zo (ZL (Zo (Zo (ZL (Zo (Zo (ZL (Zo (Zo ?_))))))))))))))))
        have e:Xc zi=([],r1):=by subst hr1;unfold Xc;exact Ze h1 (Xh (hR.symm.trans (hI.trans (by rw[hd];exact Ze h3 (Xh (xo.symm.trans (xg.trans (by rw[zr];exact Zm h5 (rfl)))) rfl)))) rfl)
        refine Yi [Ow none 0 89 6 (([]:List Zs).map Zs.c),Bk b1 (Zs.c x_2) 89,Ow A_out qh 89 6 (out.map Zs.c)] (fun _ hM=>hM.emptyrow none 89 6) ?_
        rw[e]
        exact ZO (.inl rfl) (none,0) [] (.tuple #[.slice none 0 0,.i r1]) {} rfl (fun _ hM=>hM.sub (sb 1))
       ·have uf:=(QA h5)
        refine Yg (TC.seq (Kx 13 Kr Kr Kr (YY 3 [] [(36,.b (decide ((k_2:Int)>0)))] {} (KE 36 (decide ((k_2:Int)>0)) Kr (fun h6=>?_) (fun h6=>?_)))))
        ·have y3:=(ZF h6)
         refine YY 8 [0] [(38,.i x_2.Time),(39,.slice ((qs[k]?.getD Sl.zero).A) x.length ((qs[k]?.getD Sl.zero).cap)),(41,.i (w64 ((k_2:Int)-1)))] {} (TQ.rw 41 (.i (w64 ((k_2:Int)-1))) (.i ((k_2-1:Nat):Int)) Kr (BG k_2 sd) (TQ.v (sV (Instr.indexAt 83 (.slice ((qs[k]?.getD Sl.zero).A) x.length ((qs[k]?.getD Sl.zero).cap)) (.i ((k_2-1:Nat):Int)))) 42 (.pointer (some ((((qs[k]?.getD Sl.zero).A).getD Yz).add ((k_2-1)*6)))) (fun w hM=>Zr (JD ((XS k8 k).sat hM) (JW va hx)) (by simp) Kr sd sd) rfl {} (YY 10 [] [(43,.pointer (some (((((qs[k]?.getD Sl.zero).A).getD Yz).add ((k_2-1)*6)).add 1)))] {} (TQ.v (sV (Instr.loadAt 3 (.pointer (some (((((qs[k]?.getD Sl.zero).A).getD Yz).add ((k_2-1)*6)).add 1))))) 44 (.i ((x[(k_2-1)]?.getD Zs.zero).Time)) (fun w hM=>Zu (off:=1) (i:=(k_2-1)) (.i ((x[(k_2-1)]?.getD Zs.zero).Time)) (JD ((XS k8 k).sat hM) (JW va hx)) (Z6 (getD_at _ _ Zs.zero sd)) Kr Kr) rfl {} (YY 13 [] [(46,.b (decide (x_2.Time<((x[(k_2-1)]?.getD Zs.zero).Time))))] {} (Q1 rfl (TC.cond (decide (x_2.Time<((x[(k_2-1)]?.getD Zs.zero).Time))) rfl Kr (fun h7=>?_) (fun h7=>?_))))))))
         ·refine Zf (Zc 2 [] [(2,.slice none 0 0),(3,.i 12)] {} (Zb rfl (TC.ret (ZL (Zo (Zo (ZL (Zo (Zo (ZL (Zo (Zo (ZL (Zo (Zo ?_)))))))))))))))
          have e:Xc zi=([],12):=by subst hr1;unfold Xc;exact Ze h1 (Xh (hR.symm.trans (hI.trans (by rw[hd];exact Ze h3 (Xh (xo.symm.trans (xg.trans (by rw[zr];exact Ze h5 (Zm h6 (Zm h7 (rfl)))))) rfl)))) rfl)
          refine Yi [Ow none 0 89 6 (([]:List Zs).map Zs.c),Bk b1 (Zs.c x_2) 89,Ow A_out qh 89 6 (out.map Zs.c)] (fun _ hM=>hM.emptyrow none 89 6) ?_
          rw[e]
          exact ZO (.inl rfl) (none,0) [] (.tuple #[.slice none 0 0,.i 12]) {} rfl (fun _ hM=>hM.sub (sb 1))
         ·have yr:=(Zv h7)
          exact TC.skip (ZY (Z3 (TC.region (Zc 2 [] [(24,.i (w64 ((k_2:Int)+1)))] {} (Zw rfl (TE.rw 24 (.i (w64 ((k_2:Int)+1))) (.i ((k_2+1:Nat):Int)) Kr (ZD k_2 (by omega)) (Z4 (x:=k_2) (k_2+1) ⟨by omega,xg.trans (by subst hr1;rw[zr];exact Ze h5 (Zm h6 (Ze h7 (rfl))))⟩ (mN zk) Kr (sb 2))))))))
        ·have y3:=(Zv h6)
         exact YY 13 [] [(46,.b false)] {} (Q1 rfl (J1 rfl Kr (TC.skip (ZY (Z3 (TC.region (Zc 2 [] [(24,.i (w64 ((k_2:Int)+1)))] {} (Zw rfl (TE.rw 24 (.i (w64 ((k_2:Int)+1))) (.i ((k_2+1:Nat):Int)) Kr (ZD k_2 (by omega)) (Z4 (x:=k_2) (k_2+1) ⟨by omega,xg.trans (by subst hr1;rw[zr];exact Ze h5 (Ze h6 (rfl)))⟩ (mN zk) Kr (sb 2)))))))))))
      ·have zr:=Qb h4
       refine TC.exit (ZT (ZT (Z0 ?_)))
       exact TE.cut () (xg.trans (by rw[zr];exact rfl)) Kr (sb 1)
     ·intro _ jv
      refine Z3 (TC.region (Zc 2 [] [(48,.slice A_out out.length qh),(49,.slice ((qs[k]?.getD Sl.zero).A) x.length ((qs[k]?.getD Sl.zero).cap))] {} (TL.os (Γ:=AN) (sV (Builtin.append_ #[83,83] 83 #[.slice A_out out.length qh,.slice ((qs[k]?.getD Sl.zero).A) x.length ((qs[k]?.getD Sl.zero).cap)])) 50 (fun g=>.slice g.1 (out++x).length g.2) 0 (fun g=>Ow g.1 g.2 89 6 ((out++x).map Zs.c)) (QE (bytes:=48) 83 0 x Kr rfl rfl Zs.one rfl (fun w hM=>(JD ((XS k8 k).sat hM) (JW va hx))) rfl sa) {} ?_)))
      rintro⟨A,c⟩
      exact Zc 4 [] [(4,.slice A ((out++x).length) c)] {} (Zw rfl (ZY (Z3 (TC.region (Zc 2 [] [(15,.i (w64 ((k:Int)+1)))] {} (Zw rfl (TE.rw 15 (.i (w64 ((k:Int)+1))) (.i ((k+1:Nat):Int)) Kr (ZD k (by omega)) (Z4 (x:=(k,out,A_out,qh)) (k+1,(out++x),A,c) ⟨by omega,hI.trans (by rw[hd];exact Ze h3 (Q3 (xo.symm.trans jv) (rfl))),sl⟩ (mN hlt) Kr (sb 1)))))))))
   ·have hd:=Qb h2
    refine TC.exit (ZT (ZT (Z0 ?_)))
    exact TE.cut (out,A_out,qh) (⟨hI.trans (by rw[hd];exact rfl),sl⟩) Kr (sb 1)
  ·rintro⟨qk,A_out_2,qe⟩ ⟨hJ,jw⟩
   refine YC (Zc 1 [] [(52,.slice A_out_2 qk.length qe)] {} (Qy (Γ:=(List Zs)) (fun _=>.tuple #[]) (fun g=>[.inr (Qm (g.length=qk.length∧g=Wu qk)),Ow A_out_2 qe 89 6 (g.map Zs.c)]) [Ow A_out_2 qe 89 6 (qk.map Zs.c)] [] (some 53) (fun _=>[(4,.slice A_out_2 qk.length qe)]) (fun w hM=>OV A_out_2 qe qk w hM.pass) Kr (fun g=>Kr) ?_))
   rintro r2
   refine Xm [.inr (Qm (r2.length=qk.length∧r2=Wu qk)),Ow A_out_2 qe 89 6 (r2.map Zs.c)] (fun _ hM=>hM) (Y3 (fun w hM=>hM.fact_at 0 rfl) (fun pr=>X2 [Ow A_out_2 qe 89 6 (r2.map Zs.c)] (.cons _ (aB _)) ?_))
   have ag:r2.length=qk.length:=pr.1
   refine TL.rw 4 (.slice A_out_2 qk.length qe) (.slice A_out_2 r2.length qe) Kr (by rw[ag]) ?_
   have hr2:Wu qk=r2:=(pr.2).symm
   refine Zz (Zc 1 [] [(54,.slice A_out_2 r2.length qe)] {} (Qy (Γ:=(List Zs)) (fun g=>.slice A_out_2 g.length qe) (fun g=>[.inr (Qm (g=cpt Zs.eqb r2)),Ow A_out_2 qe 89 6 (g.map Zs.c)]) [Ow A_out_2 qe 89 6 (r2.map Zs.c)] [] (some 55) (fun g=>[(55,.slice A_out_2 g.length qe)]) (fun w hM=>Ig A_out_2 qe r2 w hM.pass) Kr (fun g=>Kr) ?_))
   rintro r3
   refine Xm [.inr (Qm (r3=cpt Zs.eqb r2)),Ow A_out_2 qe 89 6 (r3.map Zs.c)] (fun _ hM=>hM) (Y3 (fun w hM=>hM.fact_at 0 rfl) (fun ra=>X2 [Ow A_out_2 qe 89 6 (r3.map Zs.c)] (.cons _ (aB _)) ?_))
   have hr3:cpt Zs.eqb r2=r3:=(ra).symm
   refine Zc 4 [] [(2,.slice A_out_2 r3.length qe),(3,.i 0)] {} (Zb rfl (TC.ret ?_))
   have e:Xc zi=(r3,0):=by subst hr2 hr3;unfold Xc;exact Ze h1 (Q3 (hR.symm.trans hJ) (rfl))
   rw[e]
   exact ZO (.inl rfl) (A_out_2,qe) [] (.tuple #[.slice A_out_2 r3.length qe,.i 0]) {} rfl (fun _ hM=>hM.sub (sb 1))
end Go.Sky
end
section
namespace Go.Sky
open Go Go.Eng Go.Proofs
def Qp (time:Int) (x:Zn):List Zq→Nat→(List Zs)→((List Zs) ⊕ ((List Zj)×Bool))
 | [],_,feed=>.inl feed
 | x_2::xs,k_2,feed=>let r1:=Y1 x_2 time
  let r2:=ZK x (⟨time,r1,x_2.height,x_2.code,0⟩:Zj)
  cond (r2.2 != 0) (
   .inr ([],false)) (
   Qp time x xs (k_2+1) (feed++([r2.1])))
def Qq (l:List Zq) (time:Int):List Zn→Nat→(List (List Zs))→((List (List Zs)) ⊕ ((List Zj)×Bool))
 | [],_,zi=>.inl zi
 | x::xs,k,zi=>Sum.elim (fun xl =>
   Qq l time xs (k+1) (zi ++ [xl])) (fun r=>.inr r) (Qp time x l 0 ([]:List Zs))
def ZV (sites:List Zn) (l:List Zq) (time:Int):List Zj×Bool :=
 Sum.elim (fun vf =>
  let r3:=Xc vf
  cond (r3.2 != 0) (
   ([],false)) (
   let r4:=XT sites r3.1
   (r4.1,r4.2==0))) (fun r=>r) (Qq l time sites 0 ([]:List (List Zs)))
set_option maxHeartbeats 4000000 in
theorem Hn (A_sites:Option Addr) (xp:Nat) (sites:List Zn) (A_l:Option Addr) (c_l:Nat) (l:List Zq) (time:Int) (w:World) (uj:Rd w 6 A_sites (sites.map Zn.c)) (rf:sites.length≤xp) (h_l:Rd w 6 A_l (l.map Zq.c)) (_hc_l:l.length≤c_l) (hT:G8 w) (hn:sites.length≤4∧l.length≤4):Calls Tryz.prog 21 #[.slice A_sites sites.length xp,.slice A_l l.length c_l,.int .i64 time] w (JH (Γ:=(Option Addr×Nat)) (cx w) (fun g=>.tuple #[.slice g.1 ((ZV sites l time).1.length) g.2,.bool ((ZV sites l time).2)]) (fun g=>[.inr (Own g.1 g.2 42 6 (((ZV sites l time).1).map Zj.c))])):=by
 have tj:=uj.short;rw[aD] at tj
 have s_l:=h_l.short;rw[aD] at s_l
 refine Zp (vs:=[.slice A_sites sites.length xp,.slice A_l l.length c_l,.i time]) (w:=w) Tryz.func21 rfl Tryz.ntmps21 rfl (Zf (Zc 2 [] [(6,.slice none 0 0),(7,.b false)] {} (Zz (Zc 1 [] [(8,.slice none 0 0)] {} (Z1 (Zf (Zc 3 [] [(19,.slice A_sites sites.length xp),(20,.i (sites.length:Int)),(21,.i 0)] {} (Zb rfl (Q0 [Ow none 0 83 1 (([]:List (Sl Zs)).map Sl.c),.inr (Bag 89 6 Zs.c ([]:List (Sl Zs)))] (fun _ hM=>(hM.bag_nil 89 6 Zs.c).emptyrow none 83 1) ?_)))))))))
 obtain⟨R2,hR⟩:∃ R,R=Qq l time sites 0 ([]:List (List Zs)):=⟨_,rfl⟩
 refine TC.cut (S:=(List (List Zs))×(Option Addr)×Nat×(List (Sl Zs))) (fun (vf,A_feeds_2,vh,j4)=>[(0,.slice A_sites sites.length xp),(8,.slice A_feeds_2 vf.length vh)]) (fun (vf,A_feeds_2,vh,j4)=>[Ow A_feeds_2 vh 83 1 (j4.map Sl.c),.inr (Bag 89 6 Zs.c j4)]) (fun (vf,A_feeds_2,vh,j4)=>R2=.inl vf∧vf.length≤sites.length∧(vf=j4.map Sl.l)) ?_ ?_
 ·refine TC.block (Xp (X:=Nat×(List (List Zs))×(Option Addr)×Nat×(List (Sl Zs))) (fun (k,zi,A_feeds,zl,qs)=>[(0,.slice A_sites sites.length xp),(1,.slice A_l l.length c_l),(2,.i time),(8,.slice A_feeds zi.length zl),(19,.slice A_sites sites.length xp),(20,.i (sites.length:Int)),(21,.i (k:Int))]) (fun (k,zi,A_feeds,zl,qs)=>[Ow A_feeds zl 83 1 (qs.map Sl.c),.inr (Bag 89 6 Zs.c qs)]) (fun (k,zi,A_feeds,zl,qs)=>sites.length-k) (fun (k,zi,A_feeds,zl,qs)=>k≤sites.length∧R2=Qq l time (sites.drop k) k zi∧zi.length≤k∧(zi=qs.map Sl.l)) ?_ (0,([]:List (List Zs)),none,0,([]:List (Sl Zs))) ⟨aP _,hR,sz,rfl⟩ Kr (sb 3))
  rintro⟨k,zi,A_feeds,zl,qs⟩ ⟨hk,hI,ah,vz⟩
  refine Zf (Zc 1 [] [(22,.b (decide ((k:Int)<(sites.length:Int))))] {} (Z1 (TC.cond (decide ((k:Int)<(sites.length:Int))) rfl Kr (fun h1=>?_) (fun h1=>?_))))
  ·have hlt:=ltN h1
   obtain⟨x,hx⟩:=elN hlt
   have hd:=drop_at hx
   refine Yg (TC.seq (TC.block (Zf (TL.v (sV (Instr.indexAt 55 (.slice A_sites sites.length xp) (.i (k:Int)))) 23 (.pointer (some (Ix A_sites (k*6)))) (fun w hM=>Zr (uj.sat hM) (by simp) Kr sd sd) {} (TL.v (sV (Instr.loadAt 85 (.pointer (some (Ix A_sites (k*6)))))) 24 (Zn.v x) (fun w hM=>Z9 (n:=6) (off:=0) (i:=k) (Zn.v x) (uj.sat hM) (Z6 hx) Kr Kr Kr) {} (ZA 10 (fun b1=>.p0 b1) (fun b1=>Bk b1 (Zn.c Zn.zero) 85) (fun b1=>{}) (fun b1=>Yp 0 (Bk b1 (Zn.c x) 85) (fun _=>{}) (Zz (Zc 1 [] [(11,.slice none 0 0)] {} (Z1 (Zf (Zc 3 [] [(25,.slice A_l l.length c_l),(26,.i (l.length:Int)),(27,.i 0)] {} (Zb rfl (Q0 [Ow none 0 89 6 (([]:List Zs).map Zs.c),Bk b1 (Zn.c x) 85,Ow A_feeds zl 83 1 (qs.map Sl.c),.inr (Bag 89 6 Zs.c qs)] (fun _ hM=>hM.emptyrow none 89 6) ?_))))))))))))))
   obtain⟨R4,xo⟩:∃ R,R=Qp time x l 0 ([]:List Zs):=⟨_,rfl⟩
   refine TC.cut (S:=(List Zs)×(Option Addr)×Nat) (fun (xl,A_feed_2,z8)=>[(0,.slice A_sites sites.length xp),(1,.slice A_l l.length c_l),(2,.i time),(8,.slice A_feeds zi.length zl),(11,.slice A_feed_2 xl.length z8),(19,.slice A_sites sites.length xp),(20,.i (sites.length:Int)),(21,.i (k:Int))]) (fun (xl,A_feed_2,z8)=>[Ow A_feed_2 z8 89 6 (xl.map Zs.c),Ow A_feeds zl 83 1 (qs.map Sl.c),.inr (Bag 89 6 Zs.c qs)]) (fun (xl,A_feed_2,z8)=>R4=.inl xl∧xl.length≤l.length) ?_ ?_
   ·refine TC.block (Xp (X:=Nat×(List Zs)×(Option Addr)×Nat) (fun (k_2,feed,A_feed,jy)=>[(0,.slice A_sites sites.length xp),(1,.slice A_l l.length c_l),(2,.i time),(8,.slice A_feeds zi.length zl),(10,.p0 b1),(11,.slice A_feed feed.length jy),(19,.slice A_sites sites.length xp),(20,.i (sites.length:Int)),(21,.i (k:Int)),(25,.slice A_l l.length c_l),(26,.i (l.length:Int)),(27,.i (k_2:Int))]) (fun (k_2,feed,A_feed,jy)=>[Ow A_feed jy 89 6 (feed.map Zs.c),Bk b1 (Zn.c x) 85,Ow A_feeds zl 83 1 (qs.map Sl.c),.inr (Bag 89 6 Zs.c qs)]) (fun (k_2,feed,A_feed,jy)=>l.length-k_2) (fun (k_2,feed,A_feed,jy)=>k_2≤l.length∧R4=Qp time x (l.drop k_2) k_2 feed∧feed.length≤k_2) ?_ (0,([]:List Zs),none,0) ⟨aP _,xo,sz⟩ Kr (sb 15))
    rintro⟨k_2,feed,A_feed,jy⟩ ⟨y4,xg,oe⟩
    refine Zf (Zc 1 [] [(28,.b (decide ((k_2:Int)<(l.length:Int))))] {} (Z1 (TC.cond (decide ((k_2:Int)<(l.length:Int))) rfl Kr (fun h2=>?_) (fun h2=>?_))))
    ·have zk:=ltN h2
     obtain⟨x_2,jf⟩:=elN zk
     have zr:=drop_at jf
     refine Yg (TC.seq (TC.block (Zf (TL.v (sV (Instr.indexAt 23 (.slice A_l l.length c_l) (.i (k_2:Int)))) 29 (.pointer (some (Ix A_l (k_2*6)))) (fun w hM=>Zr (h_l.sat hM) (by simp) Kr sd sd) {} (TL.v (sV (Instr.loadAt 38 (.pointer (some (Ix A_l (k_2*6)))))) 30 (Zq.v x_2) (fun w hM=>Z9 (n:=6) (off:=0) (i:=k_2) (Zq.v x_2) (h_l.sat hM) (Z6 jf) Kr Kr Kr) {} (ZA 13 (fun b2=>.p0 b2) (fun b2=>Bk b2 (Zq.c Zq.zero) 38) (fun b2=>{}) (fun b2=>Yp 0 (Bk b2 (Zq.c x_2) 38) (fun _=>{}) (Z1 ?_))))))))
     obtain⟨r1,hr1⟩:∃ r,Y1 x_2 time=r:=⟨_,rfl⟩
     obtain⟨r2,hr2⟩:∃ r,ZK x (⟨time,r1,x_2.height,x_2.code,0⟩:Zj)=r:=⟨_,rfl⟩
     let Mr9_:Mem:=[Bk b2 (Zq.c x_2) 38,Ow A_feed jy 89 6 (feed.map Zs.c),Bk b1 (Zn.c x) 85,Ow A_feeds zl 83 1 (qs.map Sl.c),.inr (Bag 89 6 Zs.c qs)]
     refine Jm (G:=Nat) (base:=[(0,.slice A_sites sites.length xp),(1,.slice A_l l.length c_l),(2,.i time),(8,.slice A_feeds zi.length zl),(10,.p0 b1),(11,.slice A_feed feed.length jy),(13,.p0 b2),(19,.slice A_sites sites.length xp),(20,.i (sites.length:Int)),(21,.i (k:Int)),(25,.slice A_l l.length c_l),(26,.i (l.length:Int)),(27,.i (k_2:Int))]) (vals:=fun γ=>[Zn.v x,.i time,Zq.v x_2,.i time,P.v r1,.pt b2 4,.i x_2.height,.pt b2 5,.i x_2.code,Zj.v (⟨time,r1,x_2.height,x_2.code,0⟩:Zj),.tuple #[Zs.v r2.1,.i r2.2],.tuple #[Zs.v r2.1,.i r2.2],Zs.v r2.1,.i r2.2,.p0 γ,undef,.i r2.2]) (writes:=[14,15]) (mem:=fun bs γ=>match bs with | [x14_,x15_]=>(bif x15_ then [Bk γ (Zs.c r2.1) 89] else bif x14_ then [Bk γ (Zs.c Zs.zero) 89] else [])++(Mr9_)|_=>[]) (0) (fun γ=>[(0,.slice A_sites sites.length xp),(1,.slice A_l l.length c_l),(2,.i time),(8,.slice A_feeds zi.length zl),(10,.p0 b1),(11,.slice A_feed feed.length jy),(14,.p0 γ),(15,.i r2.2),(19,.slice A_sites sites.length xp),(20,.i (sites.length:Int)),(21,.i (k:Int)),(25,.slice A_l l.length c_l),(26,.i (l.length:Int)),(27,.i (k_2:Int))]) Kr Kr Kr Kr Kr (fun γ=>Kr) (fun _ hM=>hM) (fun γ=>Kr) ?_ ?_
     ·skip
      exact Steps.run (i:=0) 4 [2,0,0,0] Mr9_ Kr Kr (fun S (γ:Nat) w hM=>by rw[mS2 rfl rfl] at hM;exact hM.sub (Zl (aB _))) Kr (fun (γ:Nat)=>{}) (Steps.call (i:=4) 16 (fun (γ:Nat)=>#[Zq.v x_2,.i time]) (some 36) (fun (γ:Nat)=>P.v r1) (fun (γ:Nat)=>[Bk b2 (Zq.c x_2) 38,Ow A_feed jy 89 6 (feed.map Zs.c),Bk b1 (Zn.c x) 85,Ow A_feeds zl 83 1 (qs.map Sl.c),.inr (Bag 89 6 Zs.c qs)]) Kr (fun S (γ:Nat) w _ hM=>by rw[mS2 rfl rfl] at hM;exact hM.sub (Zl (aB _))) (fun (γ:Nat) w _=>by have h:=KR x_2 time w;rw[hr1] at h;exact h) (fun (γ:Nat)=>Kr) (fun (γ:Nat)=>Kr) (Steps.run (i:=5) 10 [0,0,0,0,0] Mr9_ Kr Kr (fun S (γ:Nat) w hM=>by rw[mS2 rfl rfl] at hM;exact hM.sub (Zl (aB _))) Kr (fun (γ:Nat)=>{}) (Steps.call (i:=10) 32 (fun (γ:Nat)=>#[Zn.v x,Zj.v (⟨time,r1,x_2.height,x_2.code,0⟩:Zj)]) (some 42) (fun (γ:Nat)=>.tuple #[Zs.v r2.1,.i r2.2]) (fun (γ:Nat)=>[Bk b2 (Zq.c x_2) 38,Ow A_feed jy 89 6 (feed.map Zs.c),Bk b1 (Zn.c x) 85,Ow A_feeds zl 83 1 (qs.map Sl.c),.inr (Bag 89 6 Zs.c qs)]) Kr (fun S (γ:Nat) w _ hM=>by rw[mS2 rfl rfl] at hM;exact hM.sub (Zl (aB _))) (fun (γ:Nat) w hM=>by have h:=M8 x (⟨time,r1,x_2.height,x_2.code,0⟩:Zj) w (hT.sat hM);rw[hr2] at h;exact h) (fun (γ:Nat)=>Kr) (fun (γ:Nat)=>Kr) (Steps.run (i:=11) 14 [0,0,0] Mr9_ Kr Kr (fun S (γ:Nat) w hM=>by rw[mS2 rfl rfl] at hM;exact hM.sub (Zl (aB _))) Kr (fun (γ:Nat)=>{}) (Steps.op (i:=14) (Γ:=Nat) (fun g (γ:Nat)=>g) (fun _=>[]) (fun b (γ:Nat)=>[Bk b (Zs.c Zs.zero) 89]) (fun S (γ:Nat)=>Mr9_) [14,15,16] (fun (γ:Nat)=>sV (Instr.alloc 89 true (.tuple #[]))) (some 14) (fun b (γ:Nat)=>.p0 b) (fun S (γ:Nat) hj hd hl=>by rw[mS2 hj (hl 15 Kr)];exact aC _) (fun S (γ:Nat) g hl=>by rw[mS2 (S:=upS S 14) (a0:=14) (a1:=15) rfl (hl 15 Kr)];exact(aC _).symm) (fun (γ:Nat) M' w hM=>Q4 (v:=fun b=>.p0 b) (fun b M=>Kr) M' w hM) (fun (γ:Nat)=>Kr) (fun (γ:Nat) g=>Kr) Kr (fun (γ:Nat) g=>Kr) (Steps.put (i:=15) (fun (γ:Nat)=>[Bk γ (Zs.c Zs.zero) 89]) (fun (γ:Nat)=>[Bk γ (Zs.c r2.1) 89]) (fun S (γ:Nat)=>Mr9_) (fun (γ:Nat)=>sU (Instr.storeAt 89 (.p0 γ) (Zs.v r2.1))) none (fun S (γ:Nat) hj hd hl=>by rw[mS2 (hd 14 Kr) hj];exact aC _) (fun S (γ:Nat) _=>(aC _).symm) (fun (γ:Nat) M' w hM=>JB (fun b M=>Kr) (fun b M=>Kr) M' w hM) (fun (γ:Nat)=>Kr) (fun (γ:Nat)=>Kr) (Steps.run (i:=16) 17 [0] Mr9_ Kr Kr (fun S (γ:Nat) w hM=>by rw[mS2 rfl rfl] at hM;exact hM.sub (Zl (aB _))) Kr (fun (γ:Nat)=>{}) (X6 Kr))))))))
     ·rintro b3
      refine Yi [Bk b3 (Zs.c r2.1) 89,Bk b2 (Zq.c x_2) 38,Ow A_feed jy 89 6 (feed.map Zs.c),Bk b1 (Zn.c x) 85,Ow A_feeds zl 83 1 (qs.map Sl.c),.inr (Bag 89 6 Zs.c qs)] (fun _ hM=>hM) (Z3 (TC.seq (Zf (Zc 2 [] [(46,.b (r2.2 != 0))] {} (Zb rfl (TC.cond (r2.2 != 0) rfl Kr (fun h3=>?_) (fun h3=>?_)))))))
      ·refine Zf (Zc 2 [] [(6,.slice none 0 0),(7,.b false)] {} (Zb rfl (TC.ret (Zo (ZL (Zo (Zo (ZL (Zo (Zo (ZL (Zo (Zo (ZL (Zo (Zo ?_))))))))))))))))
       have e:ZV sites l time=([],false):=by subst hr1 hr2;unfold ZV;exact Xh (hR.symm.trans (hI.trans (by rw[hd];exact Xh (xo.symm.trans (xg.trans (by rw[zr];exact Zm h3 (rfl)))) rfl))) rfl
       refine Yi [Ow none 0 42 6 (([]:List Zj).map Zj.c),Bk b3 (Zs.c r2.1) 89,Bk b2 (Zq.c x_2) 38,Ow A_feed jy 89 6 (feed.map Zs.c),Bk b1 (Zn.c x) 85,Ow A_feeds zl 83 1 (qs.map Sl.c),.inr (Bag 89 6 Zs.c qs)] (fun _ hM=>hM.emptyrow none 42 6) ?_
       rw[e]
       exact ZO (.inl rfl) (none,0) [] (.tuple #[.slice none 0 0,.b false]) {} rfl (fun _ hM=>hM.sub (sb 1))
      ·have y2:=(QA h3)
       refine Yg (TC.region (Zc 2 [0] [(47,.slice A_feed feed.length jy),(48,Zs.v r2.1)] {} (ZA 49 (fun b4=>.slice (Pa b4) 1 1) (fun b4=>Bk b4 (Zs.c r2.1) 89) (fun b4=>{}) (fun b4=>TL.os (Γ:=AN) (sV (Builtin.append_ #[83,83] 83 #[.slice A_feed feed.length jy,.slice (Pa b4) 1 1])) 50 (fun g=>.slice g.1 (feed++([r2.1])).length g.2) 3 (fun g=>Ow g.1 g.2 89 6 ((feed++([r2.1])).map Zs.c)) (QE (bytes:=48) 83 3 ([r2.1]) Kr rfl rfl Zs.one rfl (fun w hM=>(Rd.lit hM 0 _ rfl Kr Kr Kr)) rfl sa) {} ?_))))
       rintro⟨A,c⟩
       exact Zc 5 [] [(11,.slice A ((feed++([r2.1])).length) c)] {} (Zw rfl (ZY (Z3 (TC.region (Zc 2 [] [(27,.i (w64 ((k_2:Int)+1)))] {} (Zw rfl (TE.rw 27 (.i (w64 ((k_2:Int)+1))) (.i ((k_2+1:Nat):Int)) Kr (ZD k_2 (by omega)) (Z4 (x:=(k_2,feed,A_feed,jy)) (k_2+1,(feed++([r2.1])),A,c) ⟨by omega,xg.trans (by subst hr1 hr2;rw[zr];exact Ze h3 (rfl)),sl⟩ (mN zk) Kr (sb 120)))))))))
    ·have zr:=Qb h2
     refine TC.exit (ZT (ZT (Z0 ?_)))
     exact TE.cut (feed,A_feed,jy) (⟨xg.trans (by rw[zr];exact rfl),sl⟩) Kr (sb 13)
   ·rintro⟨xl,A_feed_2,z8⟩ ⟨jv,mm⟩
    refine Z3 (TC.region (Zc 2 [] [(52,.slice A_feeds zi.length zl),(53,.slice A_feed_2 xl.length z8)] {} (ZA 54 (fun b5=>.slice (Pa b5) 1 1) (fun b5=>Bk b5 #[.slice A_feed_2 xl.length z8] 83) (fun b5=>{}) (fun b5=>TL.rw 52 (.slice A_feeds zi.length zl) (.slice A_feeds qs.length zl) Kr (by rw[JC vz]) (Fa (Γ:=AN) (sV (Builtin.append_ #[128,128] 128 #[.slice A_feeds qs.length zl,.slice (Pa b5) 1 1])) (some 55) (fun g=>.slice g.1 (qs ++ [(⟨A_feed_2,z8,xl⟩:Sl Zs)]).length g.2) (fun g=>[Bk b5 #[.slice A_feed_2 xl.length z8] 83,Ow A_feed_2 z8 89 6 (xl.map Zs.c),Ow g.1 g.2 83 1 ((qs ++ [(⟨A_feed_2,z8,xl⟩:Sl Zs)]).map Sl.c),.inr (Bag 89 6 Zs.c qs)]) (fun g=>[(0,.slice A_sites sites.length xp),(1,.slice A_l l.length c_l),(2,.i time),(19,.slice A_sites sites.length xp),(20,.i (sites.length:Int)),(21,.i (k:Int)),(55,.slice g.1 ((qs ++ [(⟨A_feed_2,z8,xl⟩:Sl Zs)]).length) g.2)]) (QE (bytes:=24) 128 2 [(⟨A_feed_2,z8,xl⟩:Sl Zs)] Kr rfl rfl Sl.one rfl (fun w hM=>(Rd.lit hM 0 _ rfl Kr Kr Kr)) rfl (by have hz_:=JC vz;rw[← hz_];exact sa)) Kr (fun g=>Kr) ?_)))))
    rintro⟨A_2,c_2⟩
    exact TL.rw 55 (.slice A_2 ((qs ++ [(⟨A_feed_2,z8,xl⟩:Sl Zs)]).length) c_2) (.slice A_2 ((zi ++ [xl]).length) c_2) Kr (by rw[← JC (Gy (s:=(⟨A_feed_2,z8,xl⟩:Sl Zs)) vz)]) (Xm [.inr (Bag 89 6 Zs.c (qs ++ [(⟨A_feed_2,z8,xl⟩:Sl Zs)])),Bk b5 #[.slice A_feed_2 xl.length z8] 83,Ow A_2 c_2 83 1 ((qs ++ [(⟨A_feed_2,z8,xl⟩:Sl Zs)]).map Sl.c)] (fun _ hM=>Sat.bag_add (hM.perm (((List.Perm.cons _ (aC _)).trans (List.Perm.swap _ _ _)).trans (List.Perm.cons _ (((List.Perm.cons _ ((List.Perm.cons _ (aC _)).trans (List.Perm.swap _ _ _))).trans (List.Perm.swap _ _ _)).trans (List.Perm.cons _ (aC _))))))) (Xm [Ow A_2 c_2 83 1 ((qs ++ [(⟨A_feed_2,z8,xl⟩:Sl Zs)]).map Sl.c),.inr (Bag 89 6 Zs.c (qs ++ [(⟨A_feed_2,z8,xl⟩:Sl Zs)])),Bk b5 #[.slice A_feed_2 xl.length z8] 83] (fun _ hM=>hM.perm (px [2,0,1])) (Zc 5 [] [(8,.slice A_2 ((zi ++ [xl]).length) c_2)] {} (Zw rfl (ZY (Z3 (TC.region (Zc 2 [] [(21,.i (w64 ((k:Int)+1)))] {} (Zw rfl (TE.rw 21 (.i (w64 ((k:Int)+1))) (.i ((k+1:Nat):Int)) Kr (ZD k (by omega)) (Z4 (x:=(k,zi,A_feeds,zl,qs)) (k+1,(zi ++ [xl]),A_2,c_2,(qs ++ [(⟨A_feed_2,z8,xl⟩:Sl Zs)])) ⟨by omega,hI.trans (by rw[hd];exact Q3 (xo.symm.trans jv) (rfl)),sl,(Gy (s:=(⟨A_feed_2,z8,xl⟩:Sl Zs)) vz)⟩ (mN hlt) Kr (sb 3))))))))))))
  ·have hd:=Qb h1
   refine TC.exit (ZT (ZT (Z0 ?_)))
   exact TE.cut (zi,A_feeds,zl,qs) (⟨hI.trans (by rw[hd];exact rfl),sl,vz⟩) Kr (sb 3)
 ·rintro⟨vf,A_feeds_2,vh,j4⟩ ⟨hJ,nu,yo⟩
  refine YC (Zc 1 [] [(58,.slice A_feeds_2 vf.length vh)] {} (VI (Γ:=AN) 59 (Xc vf) (fun r3 g=>.tuple #[.slice g.1 r3.1.length g.2,.i r3.2]) (fun r3 g=>[Ow g.1 g.2 89 6 (r3.1.map Zs.c)]) (fun w hM=>DL A_feeds_2 vh vf j4 w (hM.rd_at 0 rfl) (BL yo (hM.le_at 0 rfl)) (hM.bag_at 1 rfl) yo) {} (fun r3 hr3=>?_)))
  rintro⟨A_3,c_3⟩
  refine Y3 (fun w hM=>hM.short_at 0 rfl) (fun sf=>Zc 7 [] [(16,.slice A_3 r3.1.length c_3),(17,.i r3.2)] {} (Z1 (Zf (Zc 2 [] [(63,.b (r3.2 != 0))] {} (Zb rfl (TC.cond (r3.2 != 0) rfl Kr (fun h4=>?_) (fun h4=>?_)))))))
  ·refine Zf (Zc 2 [] [(6,.slice none 0 0),(7,.b false)] {} (Zb rfl (TC.ret (Zo ?_))))
   have e:ZV sites l time=([],false):=by subst hr3;unfold ZV;exact Q3 (hR.symm.trans hJ) (Zm h4 (rfl))
   refine Yi [Ow none 0 42 6 (([]:List Zj).map Zj.c),Ow A_3 c_3 89 6 (r3.1.map Zs.c),Ow A_feeds_2 vh 83 1 (j4.map Sl.c),.inr (Bag 89 6 Zs.c j4)] (fun _ hM=>hM.emptyrow none 42 6) ?_
   rw[e]
   exact ZO (.inl rfl) (none,0) [] (.tuple #[.slice none 0 0,.b false]) {} rfl (fun _ hM=>hM.sub (sb 1))
  ·refine Yc (Zc 2 [] [(65,.slice A_sites sites.length xp),(66,.slice A_3 r3.1.length c_3)] {} (VI (Γ:=AN) 67 (XT sites r3.1) (fun r4 g=>.tuple #[.slice g.1 r4.1.length g.2,.i r4.2]) (fun r4 g=>[Ow g.1 g.2 42 6 (r4.1.map Zj.c)]) (fun w hM=>DJ A_sites xp sites A_3 c_3 r3.1 w (uj.sat hM) rf (hM.rd_at 0 rfl) (hM.le_at 0 rfl) (hT.sat hM)) {} (fun r4 hr4=>?_)))
   rintro⟨A_4,c_4⟩
   refine Y3 (fun w hM=>hM.short_at 0 rfl) (fun su=>Zc 8 [] [(17,.i r4.2),(18,.slice A_4 r4.1.length c_4)] {} (Zz (Zc 5 [] [(6,.slice A_4 r4.1.length c_4),(7,.b (r4.2==0))] {} (Zb rfl (TC.ret ?_)))))
   have e:ZV sites l time=(r4.1,r4.2==0):=by subst hr3 hr4;unfold ZV;exact Q3 (hR.symm.trans hJ) (Ze h4 (rfl))
   rw[e]
   exact ZO (.inl rfl) (A_4,c_4) [] (.tuple #[.slice A_4 r4.1.length c_4,.b (r4.2==0)]) {} rfl (fun _ hM=>hM.sub (sb 1))
end Go.Sky
end
