/- Lemmas toward the given statement (part 19 of 20): RadLaw TFly Mm Na LaysPlot SortPlot Compact Nb. Each theorem states its own conditions; nothing is assumed beyond them. -/
import Derived.Test.YtjggkpkehdnhiaaGreatDoorBx18
import Derived.Test.YtjggkpkehdnhiaaGreatDoorBx11
import Derived.Test.YtjggkpkehdnhiaaGreatDoorBx04
import Derived.Test.YtjggkpkehdnhiaaGreatDoorBx02
import Derived.Shelf.SlLaysF0
import Derived.Test.YtjggkpkehdnhiaaGreatDoorRows
import Derived.Test.YtjggkpkehdnhiaaGreatDoorBx05
section
namespace Go.Sky
open Go Go.Eng
theorem DZ {n a b:Int}:ZI n a b=false→a≤n∧n≤b:=by
 unfold ZI
 intro h
 simp only[Bool.or_eq_false_iff,decide_eq_false_iff_not] at h
 omega
theorem rin {n a b:Int} (h:a≤n∧n≤b):ZI n a b=false:=by
 unfold ZI
 simp only[Bool.or_eq_false_iff,decide_eq_false_iff_not]
 omega
def PIn (p:P):Prop:=-1000000≤p.X∧p.X≤1000000 ∧ -1000000≤p.Y∧p.Y≤1000000
theorem Lc {p:P} (h:Y4 p=0):PIn p:=by
 unfold Y4 at h
 unfold PIn
 cases hc:((((decide (p.X<(-1000000)))||(decide (p.X>1000000)))||(decide (p.Y<(-1000000))))||(decide (p.Y>1000000))) with
 | true=>rw[hc] at h;cases h
 | false =>
  simp only[Bool.or_eq_false_iff,decide_eq_false_iff_not] at hc
  omega
structure Fa (s:Zi):Prop where
 id:0≤s.ID∧s.ID≤255
 at_:PIn s.At
 reach:1≤s.Reach∧s.Reach≤1000000
 rerr:1≤s.RangeError∧s.RangeError≤10000
 aerr:1≤s.AzimuthError∧s.AzimuthError≤100
theorem GE {a:Int} (h:(a != 0)=false):a=0:=by simpa using h
theorem HL {s:Zi} (h:Yd s=0):Fa s:=by
 unfold Yd at h
 simp only at h
 cases h1:ZI s.ID 0 255 <;> rw[h1] at h <;> simp only[cond_true,cond_false] at h
 case true=>cases h
 cases h2:(Y4 s.At != 0) <;> rw[h2] at h <;> simp only[cond_true,cond_false] at h
 case true=>cases h
 cases h3:ZI s.Reach 1 1000000 <;> rw[h3] at h <;> simp only[cond_true,cond_false] at h
 case true=>cases h
 cases h4:ZI s.RangeError 1 10000 <;> rw[h4] at h <;> simp only[cond_true,cond_false] at h
 case true=>cases h
 cases h5:ZI s.AzimuthError 1 100 <;> rw[h5] at h <;> simp only[cond_true,cond_false] at h
 case true=>cases h
 exact⟨DZ h1,Lc (GE h2),DZ h3,DZ h4,DZ h5⟩
structure S3 (t:Zg):Prop where
 time:0≤t.Time∧t.Time≤200000
 at_:PIn t.At
 height:0≤t.Height∧t.Height≤60000
 code:-1≤t.Code∧t.Code≤4095
theorem PV {t:Zg} (h:Zz t=0):S3 t:=by
 unfold Zz at h
 simp only at h
 cases h1:ZI t.Time 0 200000 <;> rw[h1] at h <;> simp only[cond_true,cond_false] at h
 case true=>cases h
 cases h2:(Y4 t.At != 0) <;> rw[h2] at h <;> simp only[cond_true,cond_false] at h
 case true=>cases h
 cases h3:ZI t.Height 0 60000 <;> rw[h3] at h <;> simp only[cond_true,cond_false] at h
 case true=>cases h
 cases h4:ZI t.Code (-1) 4095 <;> rw[h4] at h <;> simp only[cond_true,cond_false] at h
 case true=>cases h
 exact⟨DZ h1,Lc (GE h2),DZ h3,DZ h4⟩
theorem Uj {x n:Int} (h:-n≤x∧x≤n):0≤x*x∧x*x≤n*n:=⟨JF x,N9 h.1 h.2⟩
theorem Uy {p q:P} (hp:PIn p) (hq:PIn q):ZN p q=(p.X-q.X)*(p.X-q.X)+(p.Y-q.Y)*(p.Y-q.Y)∧(p.X-q.X)*(p.X-q.X)+(p.Y-q.Y)*(p.Y-q.Y)≤8000000000000:=by
 unfold PIn at hp hq
 have a:=Uj (x:=p.X-q.X) (n:=2000000) (by omega)
 have b:=Uj (x:=p.Y-q.Y) (n:=2000000) (by omega)
 unfold ZN Q7 Vu
 simp only
 rw[Zn (x:=p.X-q.X) (by omega),Zn (x:=p.Y-q.Y) (by omega),Zn (x:=(p.X-q.X)*(p.X-q.X)) (by omega),Zn (x:=(p.Y-q.Y)*(p.Y-q.Y)) (by omega),Zn (by omega)]
 exact⟨rfl,by omega⟩
def sqr (a b:P):Int:=w64 ((w64 ((w64 (a.X-b.X))*(w64 (a.X-b.X))))+(w64 ((w64 (a.Y-b.Y))*(w64 (a.Y-b.Y)))))
theorem Fb {p q:P} (hp:PIn p) (hq:PIn q):sqr p q=(p.X-q.X)*(p.X-q.X)+(p.Y-q.Y)*(p.Y-q.Y):=by
 unfold PIn at hp hq
 have a:=Uj (x:=p.X-q.X) (n:=2000000) (by omega)
 have b:=Uj (x:=p.Y-q.Y) (n:=2000000) (by omega)
 unfold sqr
 rw[Zn (x:=p.X-q.X) (by omega),Zn (x:=p.Y-q.Y) (by omega),Zn (x:=(p.X-q.X)*(p.X-q.X)) (by omega),Zn (x:=(p.Y-q.Y)*(p.Y-q.Y)) (by omega),Zn (by omega)]
theorem Ff (n:Int) (hn:n≤8000000000000):∀ (j:Nat) (a b:Int),(0≤a∧a≤b∧b≤3037000499∧b-a<2 ^ j)→a*a≤n→n<(b+1)*(b+1)→∃ R,XB n (j+1) a b=some R∧0≤R∧R*R≤n∧n<(R+1)*(R+1)
 | 0,a,b,h,h5,h6=>by
  have e:(2:Int) ^ 0=1:=rfl
  have hab:a=b:=by omega
  exact⟨a,by rw[XB,decide_eq_false (by omega)];rfl,h.1,h5,by rw[hab];exact h6⟩
 | j+1,a,b,h,h5,h6=>by
  have e:(2:Int) ^ (j+1)=2*2 ^ j:=by rw[Int.pow_succ];omega
  by_cases hk:a<b
  ·have w1:w64 (w64 (b-a)+1)=b-a+1:=by rw[Zn (x:=b-a) (by omega),Zn (by omega)]
   have d1:(b-a+1).tdiv 2=(b-a+1)/2:=Int.tdiv_eq_ediv_of_nonneg (by omega)
   have w2:w64 ((w64 (w64 (b-a)+1)).tdiv 2)=(b-a+1)/2:=by rw[w1,d1,Zn (by omega)]
   have w3:w64 (a+w64 ((w64 (w64 (b-a)+1)).tdiv 2))=a+(b-a+1)/2:=by rw[w2,Zn (by omega)]
   have m1:=Uj (x:=a+(b-a+1)/2) (n:=3037000499) (by omega)
   rw[XB,decide_eq_true hk]
   simp only[cond_true,w3]
   rw[Zn (x:=(a+(b-a+1)/2)*(a+(b-a+1)/2)) (by omega)]
   by_cases hc:(a+(b-a+1)/2)*(a+(b-a+1)/2)≤n
   ·rw[decide_eq_true hc,cond_true]
    exact Ff n hn j _ b (by omega) hc h6
   ·rw[decide_eq_false hc,cond_false,Zn (by omega)]
    exact Ff n hn j a _ (by omega) h5 (by rw[show a+(b-a+1)/2-1+1=a+(b-a+1)/2 by omega];omega)
  ·have hab:a=b:=by omega
   exact⟨a,by rw[XB,decide_eq_false hk];rfl,h.1,h5,by rw[hab];exact h6⟩
theorem Fg {n:Int} (h:0≤n∧n≤8000000000000):0≤XC n∧XC n*XC n≤n∧n<(XC n+1)*(XC n+1):=by
 by_cases h0:n≤0
 ·have e:XC n=0:=by unfold XC;rw[decide_eq_true h0];rfl
  rw[e];omega
 ·obtain⟨R,h1,h2⟩:=Ff n h.2 33 0 3037000499 (by decide) (by omega) (by omega)
  have e:XC n=R:=by unfold XC Y6;rw[decide_eq_false h0,cond_false,h1];rfl
  rw[e];exact h2
theorem S4 (p q:P):(XZ p q).1=XC (ZN p q):=by
 unfold XZ
 simp only
 cases decide (w64 (XC (ZN p q)*XC (ZN p q))<ZN p q) <;> rfl
theorem S5 {s:Zi} {far:Int} (hs:Fa s) (hf:0≤far∧far≤2000000) (h:Yd s=0):(Qu s far).1=s.RangeError + -(-(far*s.AzimuthError)/651) + -(-far/23170)+2∧0≤far*s.AzimuthError:=by
 have hm:0≤far*s.AzimuthError∧far*s.AzimuthError≤200000000:=by
  have a:=hs.aerr
  exact⟨Int.mul_nonneg hf.1 (by omega),Int.le_trans (Int.mul_le_mul hf.2 a.2 (by omega) (by decide)) (by decide)⟩
 have r:=hs.rerr
 refine⟨?_,hm.1⟩
 unfold Qu
 simp only
 rw[h,rin (show (0:Int)≤far∧far≤2000000 from hf)]
 simp only[bne_self_eq_false,cond_false]
 rw[Zn (x:=far*s.AzimuthError) (by omega),KL (by decide) (by omega),KL (by decide) (by omega)]
 simp only
 rw[Zn (x:=s.RangeError + -(-(far*s.AzimuthError)/651)) (by omega),Zn (x:=s.RangeError + -(-(far*s.AzimuthError)/651) + -(-far/23170)) (by omega),Zn (by omega)]
theorem Uz (n:Int):-8192≤n-16384*Xx n∧n-16384*Xx n≤8192:=by unfold Xx;split <;> omega
theorem S7 {g:Nat} {p:Int} (hp:0≤p∧p≤2000000):QF g p=(⟨Xx (p*sn g),Xx (p*cs g)⟩,0):=by
 have a:=KW (BE g) (b:=p) (by omega)
 have b:=KW (BF g) (b:=p) (by omega)
 unfold QF
 simp only
 rw[DT,DU,decide_eq_false (show ¬ p<0 by omega),decide_eq_false (show ¬ p>2000000 by omega)]
 simp only[Bool.or_self,cond_false]
 rw[Zn (by rw[Int.mul_comm];omega),Zn (by rw[Int.mul_comm];omega)]
theorem PW {g:Nat} {p:Int} (hp:0≤p∧p≤2000000):(-2000002≤Xx (p*sn g)∧Xx (p*sn g)≤2000002)∧(-2000002≤Xx (p*cs g)∧Xx (p*cs g)≤2000002):=by
 have a:=KW (BE g) (b:=p) (by omega)
 have b:=KW (BF g) (b:=p) (by omega)
 rw[Int.mul_comm] at a b
 have c:=Uz (p*sn g)
 have d:=Uz (p*cs g)
 omega
theorem WN {s:Zi} {p:Zm} (h:(ZH s p).2=0):Fa s∧(0≤p.Range∧p.Range≤2000000)∧(0≤p.Azimuth∧p.Azimuth≤4095)∧∃ vx vy:Int,vx=Xx (p.Range*sn p.Azimuth.toNat)∧vy=Xx (p.Range*cs p.Azimuth.toNat) ∧
  (ZH s p).1.At=⟨s.At.X+vx,s.At.Y+vy⟩∧PIn (ZH s p).1.At∧(ZH s p).1.Error=s.RangeError + -(-(p.Range*s.AzimuthError)/651) + -(-p.Range/23170)+2∧(ZH s p).1.Error≤1000000 ∧
  (ZH s p).1.Time=p.Time∧(ZH s p).1.Height=p.Height∧(ZH s p).1.Code=p.Code:=by
 unfold ZH at h ⊢
 simp only at h ⊢
 cases h1:(Yd s != 0) <;> rw[h1] at h <;> simp only[cond_true,cond_false] at h ⊢
 case true=>rw[h] at h1;cases h1
 cases h2:(ZM p != 0) <;> rw[h2] at h <;> simp only[cond_true,cond_false] at h ⊢
 case true=>rw[h] at h2;cases h2
 cases h3:(p.Radar != s.ID) <;> rw[h3] at h <;> simp only[cond_true,cond_false] at h ⊢
 case true=>cases h
 have hs:=HL (GE h1)
 have hp:(0≤p.Range∧p.Range≤2000000)∧(0≤p.Azimuth∧p.Azimuth≤4095):=by
  have q:=GE h2
  unfold ZM at q
  simp only at q
  cases g1:ZI p.Radar 0 255 <;> rw[g1] at q <;> simp only[cond_true,cond_false] at q
  case true=>cases q
  cases g2:ZI p.Time 0 200000 <;> rw[g2] at q <;> simp only[cond_true,cond_false] at q
  case true=>cases q
  cases g3:ZI p.Range 0 2000000 <;> rw[g3] at q <;> simp only[cond_true,cond_false] at q
  case true=>cases q
  cases g4:ZI p.Azimuth 0 4095 <;> rw[g4] at q <;> simp only[cond_true,cond_false] at q
  case true=>cases q
  exact⟨DZ g3,DZ g4⟩
 have hz:(p.Azimuth.toNat:Int)=p.Azimuth:=Int.toNat_of_nonneg hp.2.1
 have hv:=S7 (g:=p.Azimuth.toNat) hp.1
 rw[hz] at hv
 rw[hv] at h ⊢
 have hb:=PW (g:=p.Azimuth.toNat) hp.1
 have ha:=hs.at_
 have he:=(S5 hs hp.1 (GE h1)).1
 unfold PIn at ha
 simp only at h ⊢
 have hadd:Qv s.At ⟨Xx (p.Range*sn p.Azimuth.toNat),Xx (p.Range*cs p.Azimuth.toNat)⟩=⟨s.At.X+Xx (p.Range*sn p.Azimuth.toNat),s.At.Y+Xx (p.Range*cs p.Azimuth.toNat)⟩:=by
  unfold Qv
  simp only
  rw[Zn (by omega),Zn (by omega)]
 rw[hadd] at h ⊢
 cases h4:((Y4 ⟨s.At.X+Xx (p.Range*sn p.Azimuth.toNat),s.At.Y+Xx (p.Range*cs p.Azimuth.toNat)⟩ != 0)||(decide ((Qu s p.Range).1>1000000))) <;> rw[h4] at h <;> simp only[cond_true,cond_false] at h ⊢
 case true=>cases h
 rw[Bool.or_eq_false_iff] at h4
 have h5:=of_decide_eq_false h4.2
 exact⟨hs,hp.1,hp.2,_,_,rfl,rfl,rfl,Lc (GE h4.1),he,by omega,by first|trivial|simp⟩
theorem Kz {s:Zi} {t:Zg} (h:(Z4 s t).2=0):Yd s=0∧Fa s∧S3 t∧ZV s.At t.At s.Reach=true ∧
  (Z4 s t).1=⟨s.ID,t.Time,XC (ZN s.At t.At),if s.At=t.At then 0 else (ofF (Q7 t.At s.At)).1,t.Height,t.Code⟩:=by
 unfold Z4 at h ⊢
 simp only at h ⊢
 cases h1:(Yd s != 0) <;> rw[h1] at h <;> simp only[cond_true,cond_false] at h ⊢
 case true=>rw[h] at h1;cases h1
 cases h2:(Zz t != 0) <;> rw[h2] at h <;> simp only[cond_true,cond_false] at h ⊢
 case true=>rw[h] at h2;cases h2
 cases h3:ZV s.At t.At s.Reach <;> rw[h3] at h <;> simp only[Bool.not_false,Bool.not_true,cond_true,cond_false] at h ⊢
 ·cases h
 refine⟨GE h1,HL (GE h1),PV (GE h2),by first|rfl|trivial,?_⟩
 rw[S4,P.eqb_eq]
 by_cases he:s.At=t.At
 ·rw[decide_eq_true he,if_pos he];rfl
 ·rw[decide_eq_false he,if_neg he];rfl
theorem LW {v:P} (hv:KZ v) (h0:¬ (v.X=0∧v.Y=0)):(0≤(ofF v).1∧(ofF v).1<4096)∧Vk (ofF v).1.toNat v.X v.Y:=by
 obtain⟨h1,h2⟩:=WM h0
 obtain⟨n1,n2⟩:=NA h1 h2
 unfold KZ at hv
 unfold ofF
 rw[if_neg (by omega),if_neg h0]
 simp only
 by_cases c:cs (UT v.X v.Y)*v.X-sn (UT v.X v.Y)*v.Y≤v.Y*sn (UT v.X v.Y+1)-v.X*cs (UT v.X v.Y+1)
 ·rw[if_pos c,Int.toNat_natCast]
  exact⟨by omega,n1 c⟩
 ·rw[if_neg c,Int.toNat_natCast]
  have n:=n2 c
  refine⟨by omega,?_⟩
  unfold Vk at n ⊢
  rw[G5,G6];exact n
theorem ER (k:Nat):sn (k+4096)=sn k:=by unfold sn;rw[Nat.add_mod_right]
theorem ES (k:Nat):cs (k+4096)=cs k:=by unfold cs;rw[show (k+4096+1024)%4096=(k+1024)%4096 by omega]
theorem Ld {s:Zi} {t:Zg} {p:Zm} {u:Int} (hs:(Z4 s t).2=0) (hne:s.At≠t.At) (hr:p.Range-(Z4 s t).1.Range≤s.RangeError-1∧(Z4 s t).1.Range-p.Range≤s.RangeError-1)
  (hu:1-s.AzimuthError≤u∧u≤s.AzimuthError-1) (ha:p.Azimuth=((Z4 s t).1.Azimuth+u+4096)%4096) (hx:(ZH s p).2=0) :
  sqr (ZH s p).1.At t.At≤(ZH s p).1.Error*(ZH s p).1.Error:=by
 obtain⟨_,hS,hT,hw,hp⟩:=Kz hs
 rw[hp] at hr ha
 simp only[if_neg hne] at hr ha
 obtain⟨_,h1,h2,vx,vy,e1,e2,e3,e4,e5,e6,_⟩:=WN hx
 rw[Fb e4 hT.at_,e3]
 simp only
 have q:=Uy hS.at_ hT.at_
 have a1:=hS.at_
 have a2:=hT.at_
 unfold PIn at a1 a2
 have hX:Q7 t.At s.At=⟨t.At.X-s.At.X,t.At.Y-s.At.Y⟩:=by unfold Q7;rw[Zn (by omega),Zn (by omega)]
 have h0:¬ (t.At.X-s.At.X=0∧t.At.Y-s.At.Y=0):=by
  rintro⟨z1,z2⟩
  refine hne ?_
  have b1:s.At.X=t.At.X:=by omega
  have b2:s.At.Y=t.At.Y:=by omega
  rcases hsA:s.At with ⟨sx,sy⟩
  rcases htA:t.At with ⟨tx,ty⟩
  rw[hsA,htA] at b1 b2
  simp only at b1 b2
  rw[b1,b2]
 obtain⟨o1,o2⟩:=LW (v:=⟨t.At.X-s.At.X,t.At.Y-s.At.Y⟩) (by unfold KZ;simp only;omega) h0
 rw[hX] at ha
 simp only at o2
 generalize (ofF ⟨t.At.X-s.At.X,t.At.Y-s.At.Y⟩).1=H at o1 o2 ha
 rw[q.1] at hr
 have sqs:(s.At.X-t.At.X)*(s.At.X-t.At.X)+(s.At.Y-t.At.Y)*(s.At.Y-t.At.Y)=(t.At.X-s.At.X)*(t.At.X-s.At.X)+(t.At.Y-s.At.Y)*(t.At.Y-s.At.Y):=by grind
 have n0:=JF (s.At.X-t.At.X)
 have n1:=JF (s.At.Y-t.At.Y)
 obtain⟨r0,r1,r2⟩:=Fg (n:=(s.At.X-t.At.X)*(s.At.X-t.At.X)+(s.At.Y-t.At.Y)*(s.At.Y-t.At.Y)) ⟨by omega,q.2⟩
 generalize XC ((s.At.X-t.At.X)*(s.At.X-t.At.X)+(s.At.Y-t.At.Y)*(s.At.Y-t.At.Y))=r at r0 r1 r2 hr
 rw[sqs] at r1 r2
 have neg:(s.At.X+vx-t.At.X)*(s.At.X+vx-t.At.X)+(s.At.Y+vy-t.At.Y)*(s.At.Y+vy-t.At.Y)=(t.At.X-s.At.X-vx)*(t.At.X-s.At.X-vx)+(t.At.Y-s.At.Y-vy)*(t.At.Y-s.At.Y-vy):=by grind
 rw[neg]
 have b1:=Uz (p.Range*sn p.Azimuth.toNat)
 have b2:=Uz (p.Range*cs p.Azimuth.toNat)
 rw[← e1] at b1
 rw[← e2] at b2
 have aerr:=hS.aerr
 have hm:=Int.mul_nonneg h1.1 (show (0:Int)≤s.AzimuthError by omega)
 have he:651*(s.RangeError+2)+p.Range*s.AzimuthError≤651*(ZH s p).1.Error:=by
  rw[e5]
  generalize p.Range*s.AzimuthError=m at *
  omega
 by_cases hu0:0≤u
 ·refine HK (h:=H.toNat) (g:=H.toNat+u.toNat) (j:=u.toNat) (r:=r) (p:=p.Range) (A:=s.AzimuthError) (R:=s.RangeError) o2 r0 r1 r2 h1.1 hr.1 hr.2 (.inl rfl) (by omega) aerr.2 ?_ ?_ he
  ·rw[← G5 (H.toNat+u.toNat),show (H.toNat+u.toNat)%4096=p.Azimuth.toNat by omega];exact b1
  ·rw[← G6 (H.toNat+u.toNat),show (H.toNat+u.toNat)%4096=p.Azimuth.toNat by omega];exact b2
 ·have o3:Vk (H.toNat+4096) (t.At.X-s.At.X) (t.At.Y-s.At.Y):=by unfold Vk at o2 ⊢;rw[ER,ES];exact o2
  refine HK (h:=H.toNat+4096) (g:=(H+4096+u).toNat) (j:=(-u).toNat) (r:=r) (p:=p.Range) (A:=s.AzimuthError) (R:=s.RangeError) o3 r0 r1 r2 h1.1 hr.1 hr.2 (.inr (by omega)) (by omega) aerr.2 ?_ ?_ he
  ·rw[← G5 (H+4096+u).toNat,show (H+4096+u).toNat%4096=p.Azimuth.toNat by omega];exact b1
  ·rw[← G6 (H+4096+u).toNat,show (H+4096+u).toNat%4096=p.Azimuth.toNat by omega];exact b2
theorem NB {p q:P} {d:Int} (hp:PIn p) (hq:PIn q) (hd:1≤d∧d≤1000000) (h:ZV p q d=true):(p.X-q.X)*(p.X-q.X)+(p.Y-q.Y)*(p.Y-q.Y)≤d*d:=by
 have s:=Uj (x:=d) (n:=1000000) (by omega)
 unfold ZV at h
 simp only at h
 rw[(Uy hp hq).1,Zn (x:=d*d) (by omega)] at h
 cases h1:((decide (d≥0))&&(decide (d≤8000000))) with
 | false=>rw[h1] at h;simp at h
 | true =>
  rw[h1] at h
  simpa using h
theorem HM {s:Zi} {t:Zg} (h:(Z4 s t).2=0):0≤(Z4 s t).1.Range∧(Z4 s t).1.Range≤1000000:=by
 obtain⟨_,hS,hT,hw,hp⟩:=Kz h
 rw[hp]
 simp only
 have q:=Uy hS.at_ hT.at_
 have b:=NB hS.at_ hT.at_ hS.reach hw
 have n0:=JF (s.At.X-t.At.X)
 have n1:=JF (s.At.Y-t.At.Y)
 rw[q.1]
 obtain⟨r0,r1,_⟩:=Fg (n:=(s.At.X-t.At.X)*(s.At.X-t.At.X)+(s.At.Y-t.At.Y)*(s.At.Y-t.At.Y)) ⟨by omega,q.2⟩
 have:=(LV (y:=s.Reach) (by have:=hS.reach;omega) (Int.le_trans r1 b)).2
 have:=hS.reach
 omega
theorem VO {s:Zi} {t:Zg} (h:(Z4 s t).2=0):0≤(Z4 s t).1.Azimuth∧(Z4 s t).1.Azimuth≤4095:=by
 obtain⟨_,hS,hT,hw,hp⟩:=Kz h
 rw[hp]
 simp only
 by_cases he:s.At=t.At
 ·rw[if_pos he];decide
 rw[if_neg he]
 have a1:=hS.at_
 have a2:=hT.at_
 unfold PIn at a1 a2
 have hX:Q7 t.At s.At=⟨t.At.X-s.At.X,t.At.Y-s.At.Y⟩:=by unfold Q7;rw[Zn (by omega),Zn (by omega)]
 by_cases h0:t.At.X-s.At.X=0∧t.At.Y-s.At.Y=0
 ·rw[hX]
  have z:=Vg (v:=⟨t.At.X-s.At.X,t.At.Y-s.At.Y⟩) (by unfold KZ;simp only;omega) h0
  rw[← z.1];decide
 ·have:=(LW (v:=⟨t.At.X-s.At.X,t.At.Y-s.At.Y⟩) (by unfold KZ;simp only;omega) h0).1
  rw[hX];omega
theorem UW {s:Zi} {t:Zg} (h:(Z4 s t).2=0):ZM (Z4 s t).1=0∧(Z4 s t).1.Radar=s.ID:=by
 have a:=HM h
 have b:=VO h
 obtain⟨_,hS,hT,hw,hp⟩:=Kz h
 have e1:(Z4 s t).1.Radar=s.ID:=by rw[hp]
 have e2:(Z4 s t).1.Time=t.Time:=by rw[hp]
 have e3:(Z4 s t).1.Height=t.Height:=by rw[hp]
 have e4:(Z4 s t).1.Code=t.Code:=by rw[hp]
 refine⟨?_,e1⟩
 unfold ZM
 simp only
 rw[e1,e2,e3,e4,rin (show (0:Int)≤s.ID∧s.ID≤255 from hS.id),rin (show (0:Int)≤t.Time∧t.Time≤200000 from hT.time),rin (show (0:Int)≤(Z4 s t).1.Range∧(Z4 s t).1.Range≤2000000 by omega),rin (show (0:Int)≤(Z4 s t).1.Azimuth∧(Z4 s t).1.Azimuth≤4095 by omega),rin (show (0:Int)≤t.Height∧t.Height≤60000 from hT.height),rin (show (-1:Int)≤t.Code∧t.Code≤4095 from hT.code)]
 rfl
theorem RP {s:Zi} {t:Zg} (hs:(Z4 s t).2=0) (he:s.At=t.At) (hx:(ZH s (Z4 s t).1).2=0):sqr (ZH s (Z4 s t).1).1.At t.At≤(ZH s (Z4 s t).1).1.Error*(ZH s (Z4 s t).1).1.Error:=by
 obtain⟨_,hS,hT,hw,hp⟩:=Kz hs
 obtain⟨_,h1,h2,vx,vy,e1,e2,e3,e4,e5,e6,_⟩:=WN hx
 have hr:(Z4 s t).1.Range=0:=by
  rw[hp]
  simp only
  rw[(Uy hS.at_ hT.at_).1,he]
  have z:(t.At.X-t.At.X)*(t.At.X-t.At.X)+(t.At.Y-t.At.Y)*(t.At.Y-t.At.Y)=0:=by rw[Int.sub_self,Int.sub_self];rfl
  rw[z];rfl
 rw[hr,Int.zero_mul] at e1 e2
 have v0:Xx 0=0:=rfl
 rw[v0] at e1 e2
 rw[Fb e4 hT.at_,e3,he,e1,e2]
 simp only[Int.add_zero,Int.sub_self]
 exact JF _
theorem OS {s:Zi} {p:Zm} (hx:(ZH s p).2=0):0≤(ZH s p).1.Error∧(ZH s p).1.Error≤1000000:=by
 obtain⟨hS,h1,_,_,_,_,_,_,_,e5,e6,_⟩:=WN hx
 have a:=hS.aerr
 have b:=hS.rerr
 have m:=Int.mul_nonneg h1.1 (show (0:Int)≤s.AzimuthError by omega)
 exact⟨by rw[e5];omega,e6⟩
end Go.Sky
end
section
namespace Go.Sky
open Go Go.Eng
theorem RQ {s:Zi} {t:Zg} (h1:Yd s=0) (h2:Zz t=0) (h3:ZV s.At t.At s.Reach=true):(Z4 s t).2=0:=by
 unfold Z4
 simp only
 rw[h1,h2,h3]
 simp only[bne_self_eq_false,cond_false,Bool.not_true]
 cases (P.eqb s.At t.At) <;> rfl
theorem BI {p:P} (h:PIn p):Y4 p=0:=by
 unfold PIn at h
 unfold Y4
 rw[decide_eq_false (show ¬ p.X < -1000000 by omega),decide_eq_false (show ¬ p.X>1000000 by omega),decide_eq_false (show ¬ p.Y < -1000000 by omega),decide_eq_false (show ¬ p.Y>1000000 by omega)];rfl
theorem Le {f:Zf} (h:Q5 f) {t:Int} (ht:0≤t∧t≤200):Zz (QN f t)=0:=by
 have p:=Ug h ht
 have hh:=h.h;have hc:=h.c
 unfold Zz QN
 simp only
 rw[p.1,rin (n:=t) (by omega),rin (n:=f.height) (by omega),rin (n:=f.code) (by omega),rin (n:=0) (by decide),BI (by unfold PIn;simp only;omega)]
 rfl
theorem Lh {p q:P} (hp:PIn p) (hq:PIn q) {d X Y:Int} (hd:0≤d∧d≤1000000) (hx:-X≤p.X-q.X∧p.X-q.X≤X) (hy:-Y≤p.Y-q.Y∧p.Y-q.Y≤Y) (h:X*X+Y*Y≤d*d):ZV p q d=true:=by
 have a:=Uj hx
 have b:=Uj hy
 have hdd:0≤d*d∧d*d≤1000000000000:=by
  have:=Uj (x:=d) (n:=1000000) (by omega);omega
 unfold ZV
 simp only
 rw[decide_eq_true (show d≥0 by omega),decide_eq_true (show d≤8000000 by omega),Bool.and_true,cond_true,(Uy hp hq).1,Zn (by omega)]
 exact decide_eq_true (by omega)
def JG:Zi:=⟨1,⟨-20000,0⟩,400000,50,2⟩
theorem RR {s:Zi} {p:Zm} (h1:Yd s=0) (h2:ZM p=0) (h3:p.Radar=s.ID) (hr:0≤p.Range∧p.Range≤400000) (ha:0≤p.Azimuth∧p.Azimuth≤4095) (hx:-100000≤s.At.X∧s.At.X≤100000) (hy:-100000≤s.At.Y∧s.At.Y≤100000):(ZH s p).2=0:=by
 have hs:=HL h1
 have hz:(p.Azimuth.toNat:Int)=p.Azimuth:=Int.toNat_of_nonneg ha.1
 have hv:=S7 (g:=p.Azimuth.toNat) (p:=p.Range) (by omega)
 rw[hz] at hv
 have a:=Ue (A:=16384) (BE p.Azimuth.toNat) hr
 have b:=Ue (A:=16384) (BF p.Azimuth.toNat) hr
 rw[Int.mul_comm _ p.Range] at a b
 have c:=Uz (p.Range*sn p.Azimuth.toNat)
 have d:=Uz (p.Range*cs p.Azimuth.toNat)
 have e:=S5 hs (far:=p.Range) (by omega) h1
 have re:=hs.rerr;have ae:=hs.aerr
 have m:p.Range*s.AzimuthError≤400000*100:=Int.mul_le_mul hr.2 ae.2 (by omega) (by decide)
 unfold ZH
 simp only
 rw[h1,h2,h3,hv]
 simp only[bne_self_eq_false,cond_false]
 have hadd:Qv s.At ⟨Xx (p.Range*sn p.Azimuth.toNat),Xx (p.Range*cs p.Azimuth.toNat)⟩=⟨s.At.X+Xx (p.Range*sn p.Azimuth.toNat),s.At.Y+Xx (p.Range*cs p.Azimuth.toNat)⟩:=by
  unfold Qv
  simp only
  rw[Zn (by omega),Zn (by omega)]
 rw[hadd,BI (by unfold PIn;simp only;omega),e.1,decide_eq_false (by omega)]
 rfl
theorem Lj {s:Zi} {t:Zg} (hs:(Z4 s t).2=0) (hx:(ZH s (Z4 s t).1).2=0):sqr (ZH s (Z4 s t).1).1.At t.At≤(ZH s (Z4 s t).1).1.Error*(ZH s (Z4 s t).1).1.Error:=by
 by_cases he:s.At=t.At
 ·exact RP hs he hx
 ·have hc:=Kz hs
  have ae:=hc.2.1.aerr
  have re:=hc.2.1.rerr
  have az:=VO hs
  exact Ld (u:=0) hs he (by omega) (by omega) (by omega) hx
end Go.Sky
end
section
namespace Go.Sky
open Go Go.Eng Go.Proofs
def JR (x:Zi) (x_2:Zi):Bool :=
 x.ID==x_2.ID
set_option maxRecDepth 100000 in
theorem Wg (x:Zi) (a_x_2:Addr) (x_2:Zi) (w:World) (h_x_2:Rd w 6 (some a_x_2) [Zi.c x_2]):Calls Tryz.prog 139 #[Zi.v x,.pointer (some a_x_2)] w (Ret w (.bool (JR x x_2))):=by
 exact Zk (vs:=[Zi.v x,.pointer (some a_x_2)]) (w:=w) Tryz.func139 rfl Tryz.ntmps139 rfl (TC.sr (TL.nw 2 (fun b1=>.p0 b1) (fun b1=>Bk b1 (Zi.c x) 85) (fun b1=>{}) (fun b1=>TL.r 2 [] [(3,.b false)] {} (TL.nr (TL.r 3 [0] [(5,.i x.ID),(6,.pointer (some a_x_2))] {} (TL.v (sV (Instr.loadAt 3 (.pointer (some a_x_2)))) 7 (.i x_2.ID) (fun w hM=>Zs (off:=0) (.i x_2.ID) (h_x_2.sat hM) (Xv _) Kr Kr) {} (TL.r 6 [] [(3,.b (x.ID==x_2.ID))] {} (TL.next rfl (TC.ret (TE.ret [] (.b (x.ID==x_2.ID)) {} (by unfold JR;refine eS (fun z=>(.b z:Value)) ?_;exact rfl)))))))))))
def Jl (c0:Zi):List Zi→Nat→((Unit) ⊕ (Int))
 | [],_=>.inl ()
 | x::xs,k=>let r1:=JR x c0
  cond r1 (
   .inr (k:Int)) (
   Jl c0 xs (k+1))
def Js (s:List Zi) (c0:Zi):Int :=
 Sum.elim (fun _ =>
  (-1)) (fun r=>r) (Jl c0 s 0)
set_option maxRecDepth 100000 in
theorem Wh (A_s:Option Addr) (c_s:Nat) (s:List Zi) (a_c0:Addr) (c0:Zi) (w:World) (h_s:Rd w 6 A_s (s.map Zi.c)) (_hc_s:s.length≤c_s) (h_c0:Rd w 6 (some a_c0) [Zi.c c0]):Calls Tryz.prog 170 #[.slice A_s s.length c_s,.func (.func 139) #[] #[.pointer (some a_c0)]] w (Ret w (.int .i64 (Js s c0))):=by
 have s_s:=h_s.short;rw[List.length_map] at s_s
 refine Zk (vs:=[.slice A_s s.length c_s,.func (.func 139) #[] #[.pointer (some a_c0)]]) (w:=w) Tryz.func170 rfl Tryz.ntmps170 rfl (TC.sr (TL.r 1 [] [(4,.i 0)] {} (TL.ns (TC.sr (TL.r 3 [] [(7,.i (s.length:Int)),(8,.i 0)] {} (TL.next rfl ?_))))))
 obtain⟨R1,hR⟩:∃ R,R=Jl c0 s 0:=⟨_,rfl⟩
 refine TC.cut (S:=Unit) (fun (_:Unit)=>[]) (fun (_:Unit)=>[]) (fun (_:Unit)=>R1=.inl ()) ?_ ?_
 ·refine TC.block (TC.lw (X:=Nat) (fun k=>[(0,.slice A_s s.length c_s),(1,.func (.func 139) #[] #[.pointer (some a_c0)]),(7,.i (s.length:Int)),(8,.i (k:Int))]) (fun k=>[]) (fun k=>s.length-k) (fun k=>k≤s.length∧R1=Jl c0 (s.drop k) k) ?_ 0 ⟨Nat.zero_le _,hR⟩ Kr (sb 0))
  rintro k ⟨hk,hI⟩
  refine TC.sr (TL.r 1 [] [(9,.b (decide ((k:Int)<(s.length:Int))))] {} (TL.ns (TC.cond (decide ((k:Int)<(s.length:Int))) rfl Kr (fun h1=>?_) (fun h1=>?_))))
  ·have hlt:=ltN h1
   obtain⟨x,hx⟩:=elN hlt
   have hd:=drop_at hx
   refine TC.sn (TC.seq (TC.block (TC.sr (TL.r 2 [] [(5,.i (k:Int))] {} (TL.nr (TL.r 3 [] [(11,.func (.func 139) #[] #[.pointer (some a_c0)]),(12,.slice A_s s.length c_s),(13,.i (k:Int))] {} (TL.v (sV (Instr.indexAt 55 (.slice A_s s.length c_s) (.i (k:Int)))) 14 (.pointer (some (Ix A_s (k*6)))) (fun w hM=>Zp (h_s.sat hM) (by simp) Kr sd sd) {} (TL.v (sV (Instr.loadAt 85 (.pointer (some (Ix A_s (k*6)))))) 15 (Zi.v x) (fun w hM=>Z6 (n:=6) (off:=0) (i:=k) (Zi.v x) (h_s.sat hM) (Z8 hx) Kr Kr Kr) {} (TL.c 16 (JR x c0) (fun r1=>.b r1) (fun w hM=>Wg x a_c0 c0 w (h_c0.sat hM)) {} (fun r1 hr1=>TL.next rfl (TC.cond r1 rfl Kr (fun h2=>?_) (fun h2=>?_))))))))))))
   ·refine TC.sr (TL.r 2 [] [(4,.i (k:Int))] {} (TL.next rfl (TC.ret (TE.rb (TE.rt (TE.rt (TE.rb (TE.rt (TE.rt ?_)))))))))
    exact TE.ret [] (.i (k:Int)) {} (by unfold Js;refine eS (fun z=>(.i z:Value)) ?_;subst hr1;exact X3 (hR.symm.trans (hI.trans (by rw[hd];exact Zj h2 (rfl)))) rfl)
   ·exact TC.skip (TE.nb (TE.next (TC.region (TL.r 2 [] [(8,.i (w64 ((k:Int)+1)))] {} (TL.done rfl (TE.rw 8 (.i (w64 ((k:Int)+1))) (.i ((k+1:Nat):Int)) Kr (ZF k (by omega)) (TE.again (x:=k) (k+1) ⟨by omega,hI.trans (by subst hr1;rw[hd];exact Zb h2 (rfl))⟩ (mN hlt) Kr (sb 0))))))))
  ·have hd:=Qc h1
   refine TC.exit (TE.et (TE.et (TE.exit_same ?_)))
   exact TE.cut () (hI.trans (by rw[hd];exact rfl)) Kr (sb 0)
 ·intro _ hJ
  exact TE.nr (TL.r 1 [] [(4,.i (-1))] {} (TL.next rfl (TC.ret (TE.ret [] (.i (-1)) {} (by unfold Js;refine eS (fun z=>(.i z:Value)) ?_;exact Xk (hR.symm.trans hJ) (rfl))))))
def Jm (s:List Zi) (c0:Zi):Bool :=
 let r1:=Js s c0
 decide (r1≥0)
set_option maxRecDepth 100000 in
theorem U6 (A_s:Option Addr) (c_s:Nat) (s:List Zi) (a_c0:Addr) (c0:Zi) (w:World) (h_s:Rd w 6 A_s (s.map Zi.c)) (hc_s:s.length≤c_s) (h_c0:Rd w 6 (some a_c0) [Zi.c c0]):Calls Tryz.prog 138 #[.slice A_s s.length c_s,.func (.func 139) #[] #[.pointer (some a_c0)]] w (Ret w (.bool (Jm s c0))):=by
 have s_s:=h_s.short;rw[List.length_map] at s_s
 exact Zk (vs:=[.slice A_s s.length c_s,.func (.func 139) #[] #[.pointer (some a_c0)]]) (w:=w) Tryz.func138 rfl Tryz.ntmps138 rfl (TC.sr (TL.r 1 [] [(4,.b false)] {} (TL.nr (TL.r 2 [] [(5,.slice A_s s.length c_s),(6,.func (.func 139) #[] #[.pointer (some a_c0)])] {} (TL.c 7 (Js s c0) (fun r1=>.i r1) (fun w hM=>Wh A_s c_s s a_c0 c0 w (h_s.sat hM) hc_s (h_c0.sat hM)) {} (fun r1 hr1=>TL.r 5 [] [(4,.b (decide (r1≥0)))] {} (TL.next rfl (TC.ret (TE.ret [] (.b (decide (r1≥0))) {} (by unfold Jm;refine eS (fun z=>(.b z:Value)) ?_;subst hr1;exact rfl))))))))))
def J7 (l:List Zi):List Zi→Nat→((Unit) ⊕ (Int))
 | [],_=>.inl ()
 | x::xs,k=>let r1:=Yd x
  cond (r1 != 0) (
   .inr r1) (
   let r2:=Jm (l.take k) x
   cond r2 (
    .inr 7) (
    J7 l xs (k+1)))
def XU (l:List Zi):Int :=
 cond (decide ((l.length:Int)>4)) (
  2) (
  Sum.elim (fun _ =>
   0) (fun r=>r) (J7 l l 0))
set_option maxHeartbeats 4000000 in
set_option maxRecDepth 100000 in
theorem HN (A_l:Option Addr) (c_l:Nat) (l:List Zi) (w:World) (h_l:Rd w 6 A_l (l.map Zi.c)) (hc_l:l.length≤c_l):Calls Tryz.prog 79 #[.slice A_l l.length c_l] w (Ret w (.int .i64 (XU l))):=by
 have s_l:=h_l.short;rw[List.length_map] at s_l
 refine Zk (vs:=[.slice A_l l.length c_l]) (w:=w) Tryz.func79 rfl Tryz.ntmps79 rfl (TC.sr (TL.r 1 [] [(2,.i 0)] {} (TL.ns (TC.sr (TL.r 3 [] [(8,.b (decide ((l.length:Int)>4)))] {} (TL.next rfl (TC.cond (decide ((l.length:Int)>4)) rfl Kr (fun h1=>?_) (fun h1=>?_))))))))
 ·exact TC.sr (TL.r 1 [] [(2,.i 2)] {} (TL.next rfl (TC.ret (TE.rt (TE.ret [] (.i 2) {} (by unfold XU;refine eS (fun z=>(.i z:Value)) ?_;exact Zj h1 (rfl)))))))
 ·have q1_0:=(Zq h1)
  refine TC.sn (TC.seq (TC.sr (TL.r 3 [] [(9,.slice A_l l.length c_l),(10,.i (l.length:Int)),(11,.i 0)] {} (TL.next rfl ?_))))
  obtain⟨R1,hR⟩:∃ R,R=J7 l l 0:=⟨_,rfl⟩
  refine TC.cut (S:=Unit) (fun (_:Unit)=>[]) (fun (_:Unit)=>[]) (fun (_:Unit)=>R1=.inl ()) ?_ ?_
  ·refine TC.block (TC.lw (X:=Nat) (fun k=>[(0,.slice A_l l.length c_l),(9,.slice A_l l.length c_l),(10,.i (l.length:Int)),(11,.i (k:Int))]) (fun k=>[]) (fun k=>l.length-k) (fun k=>k≤l.length∧R1=J7 l (l.drop k) k) ?_ 0 ⟨Nat.zero_le _,hR⟩ Kr (sb 0))
   rintro k ⟨hk,hI⟩
   refine TC.sr (TL.r 1 [] [(12,.b (decide ((k:Int)<(l.length:Int))))] {} (TL.ns (TC.cond (decide ((k:Int)<(l.length:Int))) rfl Kr (fun h2=>?_) (fun h2=>?_))))
   ·have hlt:=ltN h2
    obtain⟨x,hx⟩:=elN hlt
    have hd:=drop_at hx
    refine TC.sn (TC.seq (TC.block (TC.sr (TL.r 1 [] [(13,.i (k:Int))] {} (TL.v (sV (Instr.indexAt 55 (.slice A_l l.length c_l) (.i (k:Int)))) 14 (.pointer (some (Ix A_l (k*6)))) (fun w hM=>Zp (h_l.sat hM) (by simp) Kr sd sd) {} (TL.v (sV (Instr.loadAt 85 (.pointer (some (Ix A_l (k*6)))))) 15 (Zi.v x) (fun w hM=>Z6 (n:=6) (off:=0) (i:=k) (Zi.v x) (h_l.sat hM) (Z8 hx) Kr Kr Kr) {} (TL.nw 4 (fun b1=>.p0 b1) (fun b1=>Bk b1 (Zi.c Zi.zero) 85) (fun b1=>{}) (fun b1=>TL.r 5 [] [(3,.i (k:Int))] {} (TL.s 0 (Bk b1 (Zi.c x) 85) (fun _=>{}) (TL.ns (TC.sr (TL.r 1 [0] [(16,Zi.v x)] {} (TL.c 17 (Yd x) (fun r1=>.i r1) (fun w _=>Ky x w) {} (fun r1 hr1=>TL.r 3 [] [(5,.i r1)] {} (TL.nr (TL.r 2 [] [(19,.b (r1 != 0))] {} (TL.next rfl (TC.cond (r1 != 0) rfl Kr (fun h3=>?_) (fun h3=>?_)))))))))))))))))))
    ·refine TC.sr (TL.r 2 [] [(2,.i r1)] {} (TL.next rfl (TC.ret (TE.rt (TE.rb (TE.rt (TE.rt (TE.rb (TE.rt (TE.rt ?_))))))))))
     exact TE.ret [] (.i r1) {} (by unfold XU;refine eS (fun z=>(.i z:Value)) ?_;subst hr1;exact Zb h1 (X3 (hR.symm.trans (hI.trans (by rw[hd];exact Zj h3 (rfl)))) rfl))
    ·have q3_0:=(QQ h3)
     refine TC.snr (TL.r 2 [] [(21,.slice A_l l.length c_l),(22,.i (k:Int))] {} ?_)
     obtain⟨A1,hA1⟩:∃ A0_,A0_=(if c_l=0 then A_l else A_l.map (fun a=>a.add (0*6))):=⟨_,rfl⟩
     have hR1:Rd w 6 A1 ((l.take k).map Zi.c):=by rw[hA1];exact h_l.cutMap 0 _ hc_l
     have hC1:(l.take k).length≤(c_l-0):=by simp only[List.length_take];omega
     have s_hR1:=hR1.short;rw[List.length_map] at s_hR1
     refine TL.v (sV (Instr.sliceAt 55 (.slice A_l l.length c_l) none (some (.i (k:Int))) none)) 23 (.slice A1 ((l.take k).length) (c_l-0)) (fun w hM=>(JE 0 k Kr (.inl ⟨rfl,rfl⟩) (.inr ⟨_,_,rfl,sd,rfl⟩) sd sd).trans (by rw[hA1];congr 3;first|(simp only[List.length_take] <;> omega)|(simp only[List.length_take] at * <;> omega))) {} (TL.r 4 [] [(24,.func (.func 139) #[] #[.p0 b1])] {} (TL.c 25 (Jm (l.take k) x) (fun r2=>.b r2) (fun w hM=>U6 A1 (c_l-0) (l.take k) ⟨b1,0,none⟩ x w (hR1.sat hM) hC1 (Rd.lit hM 0 _ rfl Kr Kr Kr)) {} (fun r2 hr2=>TL.next rfl (TC.cond r2 rfl Kr (fun h4=>?_) (fun h4=>?_)))))
     ·refine TC.sr (TL.r 1 [] [(2,.i 7)] {} (TL.next rfl (TC.ret (TE.rb (TE.rt (TE.rt (TE.rb (TE.rt (TE.rt ?_)))))))))
      exact TE.ret [] (.i 7) {} (by unfold XU;refine eS (fun z=>(.i z:Value)) ?_;subst hr1 hr2;exact Zb h1 (X3 (hR.symm.trans (hI.trans (by rw[hd];exact Zb h3 (Zj h4 (rfl))))) rfl))
     ·exact TC.skip (TE.nb (TE.next (TC.region (TL.r 2 [] [(11,.i (w64 ((k:Int)+1)))] {} (TL.done rfl (TE.rw 11 (.i (w64 ((k:Int)+1))) (.i ((k+1:Nat):Int)) Kr (ZF k (by omega)) (TE.again (x:=k) (k+1) ⟨by omega,hI.trans (by subst hr1 hr2;rw[hd];exact Zb h3 (Zb h4 (rfl)))⟩ (mN hlt) Kr (sb 0))))))))
   ·have hd:=Qc h2
    refine TC.exit (TE.et (TE.et (TE.exit_same ?_)))
    exact TE.cut () (hI.trans (by rw[hd];exact rfl)) Kr (sb 0)
  ·intro _ hJ
   exact TE.nr (TL.r 1 [] [(2,.i 0)] {} (TL.next rfl (TC.ret (TE.ret [] (.i 0) {} (by unfold XU;refine eS (fun z=>(.i z:Value)) ?_;exact Zb h1 (Xk (hR.symm.trans hJ) (rfl)))))))
def XD:List Zm→Nat→((Unit) ⊕ (Int))
 | [],_=>.inl ()
 | x::xs,k=>let r1:=ZM x
  cond (r1 != 0) (
   .inr r1) (
   XD xs (k+1))
def YL (l:List Zm):Int :=
 cond (decide ((l.length:Int)>1024)) (
  2) (
  Sum.elim (fun _ =>
   0) (fun r=>r) (XD l 0))
set_option maxRecDepth 100000 in
theorem U7 (A_l:Option Addr) (c_l:Nat) (l:List Zm) (w:World) (h_l:Rd w 6 A_l (l.map Zm.c)) (_hc_l:l.length≤c_l):Calls Tryz.prog 80 #[.slice A_l l.length c_l] w (Ret w (.int .i64 (YL l))):=by
 have s_l:=h_l.short;rw[List.length_map] at s_l
 refine Zk (vs:=[.slice A_l l.length c_l]) (w:=w) Tryz.func80 rfl Tryz.ntmps80 rfl (TC.sr (TL.r 1 [] [(2,.i 0)] {} (TL.ns (TC.sr (TL.r 3 [] [(8,.b (decide ((l.length:Int)>1024)))] {} (TL.next rfl (TC.cond (decide ((l.length:Int)>1024)) rfl Kr (fun h1=>?_) (fun h1=>?_))))))))
 ·exact TC.sr (TL.r 1 [] [(2,.i 2)] {} (TL.next rfl (TC.ret (TE.rt (TE.ret [] (.i 2) {} (by unfold YL;refine eS (fun z=>(.i z:Value)) ?_;exact Zj h1 (rfl)))))))
 ·have q1_0:=(Zq h1)
  refine TC.sn (TC.seq (TC.sr (TL.r 3 [] [(9,.slice A_l l.length c_l),(10,.i (l.length:Int)),(11,.i 0)] {} (TL.next rfl ?_))))
  obtain⟨R1,hR⟩:∃ R,R=XD l 0:=⟨_,rfl⟩
  refine TC.cut (S:=Unit) (fun (_:Unit)=>[]) (fun (_:Unit)=>[]) (fun (_:Unit)=>R1=.inl ()) ?_ ?_
  ·refine TC.block (TC.lw (X:=Nat) (fun k=>[(9,.slice A_l l.length c_l),(10,.i (l.length:Int)),(11,.i (k:Int))]) (fun k=>[]) (fun k=>l.length-k) (fun k=>k≤l.length∧R1=XD (l.drop k) k) ?_ 0 ⟨Nat.zero_le _,hR⟩ Kr (sb 0))
   rintro k ⟨hk,hI⟩
   refine TC.sr (TL.r 1 [] [(12,.b (decide ((k:Int)<(l.length:Int))))] {} (TL.ns (TC.cond (decide ((k:Int)<(l.length:Int))) rfl Kr (fun h2=>?_) (fun h2=>?_))))
   ·have hlt:=ltN h2
    obtain⟨x,hx⟩:=elN hlt
    have hd:=drop_at hx
    refine TC.sn (TC.seq (TC.block (TC.sr (TL.v (sV (Instr.indexAt 83 (.slice A_l l.length c_l) (.i (k:Int)))) 13 (.pointer (some (Ix A_l (k*6)))) (fun w hM=>Zp (h_l.sat hM) (by simp) Kr sd sd) {} (TL.v (sV (Instr.loadAt 89 (.pointer (some (Ix A_l (k*6)))))) 14 (Zm.v x) (fun w hM=>Z6 (n:=6) (off:=0) (i:=k) (Zm.v x) (h_l.sat hM) (Z8 hx) Kr Kr Kr) {} (TL.nw 4 (fun b1=>.p0 b1) (fun b1=>Bk b1 (Zm.c Zm.zero) 89) (fun b1=>{}) (fun b1=>TL.s 0 (Bk b1 (Zm.c x) 89) (fun _=>{}) (TL.nr (TL.r 1 [0] [(15,Zm.v x)] {} (TL.c 16 (ZM x) (fun r1=>.i r1) (fun w _=>JQ x w) {} (fun r1 hr1=>TL.r 3 [] [(5,.i r1)] {} (TL.nr (TL.r 2 [] [(18,.b (r1 != 0))] {} (TL.next rfl (TC.cond (r1 != 0) rfl Kr (fun h3=>?_) (fun h3=>?_))))))))))))))))
    ·refine TC.sr (TL.r 2 [] [(2,.i r1)] {} (TL.next rfl (TC.ret (TE.rb (TE.rt (TE.rt (TE.rb (TE.rt (TE.rt ?_)))))))))
     exact TE.ret [] (.i r1) {} (by unfold YL;refine eS (fun z=>(.i z:Value)) ?_;subst hr1;exact Zb h1 (X3 (hR.symm.trans (hI.trans (by rw[hd];exact Zj h3 (rfl)))) rfl))
    ·have q3_0:=(QQ h3)
     exact TC.skip (TE.nb (TE.next (TC.region (TL.r 2 [] [(11,.i (w64 ((k:Int)+1)))] {} (TL.done rfl (TE.rw 11 (.i (w64 ((k:Int)+1))) (.i ((k+1:Nat):Int)) Kr (ZF k (by omega)) (TE.again (x:=k) (k+1) ⟨by omega,hI.trans (by subst hr1;rw[hd];exact Zb h3 (rfl))⟩ (mN hlt) Kr (sb 0))))))))
   ·have hd:=Qc h2
    refine TC.exit (TE.et (TE.et (TE.exit_same ?_)))
    exact TE.cut () (hI.trans (by rw[hd];exact rfl)) Kr (sb 0)
  ·intro _ hJ
   exact TE.nr (TL.r 1 [] [(2,.i 0)] {} (TL.next rfl (TC.ret (TE.ret [] (.i 0) {} (by unfold YL;refine eS (fun z=>(.i z:Value)) ?_;exact Zb h1 (Xk (hR.symm.trans hJ) (rfl)))))))
def Y3 (x:Zm):List Zi→Nat→(List Zg)→(List Zg)
 | [],_,out_3=>out_3
 | x_2::xs,k_2,out_3=>cond (x_2.ID != x.Radar) (
   Y3 x xs (k_2+1) out_3) (
   let r3:=ZH x_2 x
   cond (r3.2==0) (
    Y3 x xs (k_2+1) (out_3++([r3.1]))) (
    Y3 x xs (k_2+1) out_3))
def Qj (l:List Zi):List Zm→Nat→(List Zg)→(List Zg)
 | [],_,out=>out
 | x::xs,k,out=>Y6 (Y3 x l 0 out) (fun out_4 =>
   Qj l xs (k+1) out_4)
def Xm (l:List Zi) (plots:List Zm):List Zg×Int :=
 let r1:=XU l
 cond (r1 != 0) (
  ([],r1)) (
  let r2:=YL plots
  cond (r2 != 0) (
   ([],r2)) (
   Y6 (Qj l plots 0 ([]:List Zg)) (fun out_2 =>
    (out_2,0))))
theorem Jd {l:List Zi} {r:Int} (hr:XU l=r) (h:(r != 0)=false):l.length≤4:=by
 have h:r=0:=by simpa using h
 rw[h] at hr
 unfold XU at hr
 cases h1:decide ((l.length:Int)>4) with
 | true=>rw[h1] at hr;cases hr
 | false=>have:=of_decide_eq_false h1;omega
theorem Q2 {l:List Zm} {r:Int} (hr:YL l=r) (h:(r != 0)=false):l.length≤1024:=by
 have h:r=0:=by simpa using h
 rw[h] at hr
 unfold YL at hr
 cases h1:decide ((l.length:Int)>1024) with
 | true=>rw[h1] at hr;cases hr
 | false=>have:=of_decide_eq_false h1;omega
set_option maxHeartbeats 4000000 in
set_option maxRecDepth 100000 in
theorem HO (A_l:Option Addr) (c_l:Nat) (l:List Zi) (A_plots:Option Addr) (c_plots:Nat) (plots:List Zm) (w:World) (h_l:Rd w 6 A_l (l.map Zi.c)) (hc_l:l.length≤c_l) (h_plots:Rd w 6 A_plots (plots.map Zm.c)) (hc_plots:plots.length≤c_plots) (hT:Uh w):Calls Tryz.prog 35 #[.slice A_l l.length c_l,.slice A_plots plots.length c_plots] w (QW (Γ:=(Option Addr×Nat)) (cx w) (fun g=>.tuple #[.slice g.1 ((Xm l plots).1.length) g.2,.int .i64 ((Xm l plots).2)]) (fun g=>[.inr (Own g.1 g.2 42 6 (((Xm l plots).1).map Zg.c))])):=by
 have s_l:=h_l.short;rw[List.length_map] at s_l
 have s_plots:=h_plots.short;rw[List.length_map] at s_plots
 refine Zk (vs:=[.slice A_l l.length c_l,.slice A_plots plots.length c_plots]) (w:=w) Tryz.func35 rfl Tryz.ntmps35 rfl (TC.sr (TL.r 2 [] [(4,.slice none 0 0),(5,.i 0)] {} (TL.ns (TC.sr (TL.r 1 [] [(15,.slice A_l l.length c_l)] {} (TL.c 16 (XU l) (fun r1=>.i r1) (fun w hM=>HN A_l c_l l w (h_l.sat hM) hc_l) {} (fun r1 hr1=>TL.r 3 [] [(6,.i r1)] {} (TL.nr (TL.r 2 [] [(18,.b (r1 != 0))] {} (TL.next rfl (TC.cond (r1 != 0) rfl Kr (fun h1=>?_) (fun h1=>?_))))))))))))
 ·refine TC.sr (TL.r 3 [] [(4,.slice none 0 0),(5,.i r1)] {} (TL.next rfl (TC.ret (TE.rt ?_))))
  have e:Xm l plots=([],r1):=by subst hr1;unfold Xm;exact Zj h1 (rfl)
  refine TE.conv [Ow none 0 42 6 (([]:List Zg).map Zg.c)] (fun _ hM=>hM.emptyrow none 42 6) ?_
  rw[e]
  exact TE.retM (.inl rfl) (none,0) [] (.tuple #[.slice none 0 0,.i r1]) {} rfl (fun _ hM=>hM.sub (sb 1))
 ·have q1_0:=(QQ h1)
  refine TC.sn (TC.seq (TC.sr (TL.r 1 [] [(20,.slice A_plots plots.length c_plots)] {} (TL.c 21 (YL plots) (fun r2=>.i r2) (fun w hM=>U7 A_plots c_plots plots w (h_plots.sat hM) hc_plots) {} (fun r2 hr2=>TL.r 3 [] [(7,.i r2)] {} (TL.nr (TL.r 2 [] [(23,.b (r2 != 0))] {} (TL.next rfl (TC.cond (r2 != 0) rfl Kr (fun h2=>?_) (fun h2=>?_))))))))))
  ·refine TC.sr (TL.r 3 [] [(4,.slice none 0 0),(5,.i r2)] {} (TL.next rfl (TC.ret (TE.rt ?_))))
   have e:Xm l plots=([],r2):=by subst hr1 hr2;unfold Xm;exact Zb h1 (Zj h2 (rfl))
   refine TE.conv [Ow none 0 42 6 (([]:List Zg).map Zg.c)] (fun _ hM=>hM.emptyrow none 42 6) ?_
   rw[e]
   exact TE.retM (.inl rfl) (none,0) [] (.tuple #[.slice none 0 0,.i r2]) {} rfl (fun _ hM=>hM.sub (sb 1))
  ·have q2_0:=(QQ h2)
   refine TC.snr (TL.r 1 [] [(8,.slice none 0 0)] {} (TL.ns (TC.sr (TL.r 3 [] [(25,.slice A_plots plots.length c_plots),(26,.i (plots.length:Int)),(27,.i 0)] {} (TL.next rfl (TC.conv [Ow none 0 42 6 (([]:List Zg).map Zg.c)] (fun _ hM=>hM.emptyrow none 42 6) ?_))))))
   obtain⟨R4,hR⟩:∃ R,R=Qj l plots 0 ([]:List Zg):=⟨_,rfl⟩
   refine TC.cut (S:=(List Zg)×(Option Addr)×Nat) (fun (out_2,A_out_2,c_out_2)=>[(8,.slice A_out_2 out_2.length c_out_2)]) (fun (out_2,A_out_2,c_out_2)=>[Ow A_out_2 c_out_2 42 6 (out_2.map Zg.c)]) (fun (out_2,A_out_2,c_out_2)=>R4=out_2∧out_2.length≤4*plots.length) ?_ ?_
   ·refine TC.block (TC.lw (X:=Nat×(List Zg)×(Option Addr)×Nat) (fun (k,out,A_out,c_out)=>[(0,.slice A_l l.length c_l),(8,.slice A_out out.length c_out),(25,.slice A_plots plots.length c_plots),(26,.i (plots.length:Int)),(27,.i (k:Int))]) (fun (k,out,A_out,c_out)=>[Ow A_out c_out 42 6 (out.map Zg.c)]) (fun (k,out,A_out,c_out)=>plots.length-k) (fun (k,out,A_out,c_out)=>k≤plots.length∧R4=Qj l (plots.drop k) k out∧out.length≤4*k) ?_ (0,([]:List Zg),none,0) ⟨Nat.zero_le _,hR,sz⟩ Kr (sb 1))
    rintro⟨k,out,A_out,c_out⟩ ⟨hk,hI,hl_out⟩
    refine TC.sr (TL.r 1 [] [(28,.b (decide ((k:Int)<(plots.length:Int))))] {} (TL.ns (TC.cond (decide ((k:Int)<(plots.length:Int))) rfl Kr (fun h3=>?_) (fun h3=>?_))))
    ·have hlt:=ltN h3
     obtain⟨x,hx⟩:=elN hlt
     have hd:=drop_at hx
     refine TC.sn (TC.seq (TC.block (TC.sr (TL.v (sV (Instr.indexAt 83 (.slice A_plots plots.length c_plots) (.i (k:Int)))) 29 (.pointer (some (Ix A_plots (k*6)))) (fun w hM=>Zp (h_plots.sat hM) (by simp) Kr (by (try have kl_:=Jd hr1 h1);(try have kp_:=Q2 hr2 h2);exact sd) (by (try have kl_:=Jd hr1 h1);(try have kp_:=Q2 hr2 h2);exact sd)) {} (TL.v (sV (Instr.loadAt 89 (.pointer (some (Ix A_plots (k*6)))))) 30 (Zm.v x) (fun w hM=>Z6 (n:=6) (off:=0) (i:=k) (Zm.v x) (h_plots.sat hM) (Z8 hx) Kr Kr Kr) {} (TL.nw 10 (fun b1=>.p0 b1) (fun b1=>Bk b1 (Zm.c Zm.zero) 89) (fun b1=>{}) (fun b1=>TL.s 0 (Bk b1 (Zm.c x) 89) (fun _=>{}) (TL.nr (TL.r 3 [] [(31,.slice A_l l.length c_l),(32,.i (l.length:Int)),(33,.i 0)] {} (TL.next rfl ?_))))))))))
     obtain⟨R5,hR_2⟩:∃ R,R=Y3 x l 0 out:=⟨_,rfl⟩
     refine TC.cut (S:=(List Zg)×(Option Addr)×Nat) (fun (out_4,A_out_4,c_out_4)=>[(0,.slice A_l l.length c_l),(8,.slice A_out_4 out_4.length c_out_4),(25,.slice A_plots plots.length c_plots),(26,.i (plots.length:Int)),(27,.i (k:Int))]) (fun (out_4,A_out_4,c_out_4)=>[Ow A_out_4 c_out_4 42 6 (out_4.map Zg.c)]) (fun (out_4,A_out_4,c_out_4)=>R5=out_4∧out_4.length≤out.length+l.length) ?_ ?_
     ·refine TC.block (TC.lw (X:=Nat×(List Zg)×(Option Addr)×Nat) (fun (k_2,out_3,A_out_3,c_out_3)=>[(0,.slice A_l l.length c_l),(8,.slice A_out_3 out_3.length c_out_3),(10,.p0 b1),(25,.slice A_plots plots.length c_plots),(26,.i (plots.length:Int)),(27,.i (k:Int)),(31,.slice A_l l.length c_l),(32,.i (l.length:Int)),(33,.i (k_2:Int))]) (fun (k_2,out_3,A_out_3,c_out_3)=>[Bk b1 (Zm.c x) 89,Ow A_out_3 c_out_3 42 6 (out_3.map Zg.c)]) (fun (k_2,out_3,A_out_3,c_out_3)=>l.length-k_2) (fun (k_2,out_3,A_out_3,c_out_3)=>k_2≤l.length∧R5=Y3 x (l.drop k_2) k_2 out_3∧out_3.length≤out.length+k_2) ?_ (0,out,A_out,c_out) ⟨Nat.zero_le _,hR_2,sz⟩ Kr (sb 3))
      rintro⟨k_2,out_3,A_out_3,c_out_3⟩ ⟨hk_2,hI_2,hl_out_3⟩
      refine TC.sr (TL.r 1 [] [(34,.b (decide ((k_2:Int)<(l.length:Int))))] {} (TL.ns (TC.cond (decide ((k_2:Int)<(l.length:Int))) rfl Kr (fun h4=>?_) (fun h4=>?_))))
      ·have hlt_2:=ltN h4
       obtain⟨x_2,hx_2⟩:=elN hlt_2
       have hd_2:=drop_at hx_2
       refine TC.sn (TC.seq (TC.block (TC.sr (TL.v (sV (Instr.indexAt 55 (.slice A_l l.length c_l) (.i (k_2:Int)))) 35 (.pointer (some (Ix A_l (k_2*6)))) (fun w hM=>Zp (h_l.sat hM) (by simp) Kr (by (try have kl_:=Jd hr1 h1);(try have kp_:=Q2 hr2 h2);exact sd) (by (try have kl_:=Jd hr1 h1);(try have kp_:=Q2 hr2 h2);exact sd)) {} (TL.v (sV (Instr.loadAt 85 (.pointer (some (Ix A_l (k_2*6)))))) 36 (Zi.v x_2) (fun w hM=>Z6 (n:=6) (off:=0) (i:=k_2) (Zi.v x_2) (h_l.sat hM) (Z8 hx_2) Kr Kr Kr) {} (TL.nw 12 (fun b2=>.p0 b2) (fun b2=>Bk b2 (Zi.c Zi.zero) 85) (fun b2=>{}) (fun b2=>TL.s 0 (Bk b2 (Zi.c x_2) 85) (fun _=>{}) (TL.ns (TC.sr (TL.r 5 [0,1] [(41,.b (x_2.ID != x.Radar))] {} (TL.next rfl (TC.cond (x_2.ID != x.Radar) rfl Kr (fun h5=>?_) (fun h5=>?_)))))))))))))
       ·have q5_0:=(L0 h5)
        refine TC.exit (TE.et (TE.exit_same ?_))
        exact TE.next (TC.region (TL.r 2 [] [(33,.i (w64 ((k_2:Int)+1)))] {} (TL.done rfl (TE.rw 33 (.i (w64 ((k_2:Int)+1))) (.i ((k_2+1:Nat):Int)) Kr (ZF k_2 (by (try have kl_:=Jd hr1 h1);(try have kp_:=Q2 hr2 h2);omega)) (TE.again (x:=(k_2,out_3,A_out_3,c_out_3)) (k_2+1,out_3,A_out_3,c_out_3) ⟨by omega,hI_2.trans (by subst hr1 hr2;rw[hd_2];exact Zj h5 (rfl)),(by (try have kl_:=Jd hr1 h1);(try have kp_:=Q2 hr2 h2);exact sl)⟩ (mN hlt_2) Kr (sb 6))))))
       ·have q5_0:=(QQ h5)
        refine TC.snr (TL.r 2 [0,1] [(43,Zi.v x_2),(44,Zm.v x)] {} (TL.c 45 (ZH x_2 x) (fun r3=>.tuple #[Zg.v r3.1,.i r3.2]) (fun w hM=>DW x_2 x w (hT.sat hM)) {} (fun r3 hr3=>TL.r 6 [] [(46,Zg.v r3.1),(47,.i r3.2)] {} (TL.nw 13 (fun b3=>.p0 b3) (fun b3=>Bk b3 (Zg.c Zg.zero) 42) (fun b3=>{}) (fun b3=>TL.s 0 (Bk b3 (Zg.c r3.1) 42) (fun _=>{}) (TL.r 9 [] [(14,.i r3.2)] {} (TL.nr (TL.r 2 [] [(49,.b (r3.2==0))] {} (TL.next rfl (TC.cond (r3.2==0) rfl Kr (fun h6=>?_) (fun h6=>?_)))))))))))
        ·have q6_0:=(Y7 h6)
         refine TC.region (TL.r 2 [0] [(50,.slice A_out_3 out_3.length c_out_3),(51,Zg.v r3.1)] {} (TL.nw 52 (fun b4=>.slice (Pa b4) 1 1) (fun b4=>Bk b4 (Zg.c r3.1) 42) (fun b4=>{}) (fun b4=>TL.os (Γ:=AN) (sV (Builtin.append_ #[52,52] 52 #[.slice A_out_3 out_3.length c_out_3,.slice (Pa b4) 1 1])) 53 (fun g=>.slice g.1 (out_3++([r3.1])).length g.2) 4 (fun g=>Ow g.1 g.2 42 6 ((out_3++([r3.1])).map Zg.c)) (Qx (bytes:=48) 52 4 ([r3.1]) Kr rfl rfl Zg.one rfl (fun w hM=>(Rd.lit hM 0 _ rfl Kr Kr Kr)) rfl (by (try have kl_:=Jd hr1 h1);(try have kp_:=Q2 hr2 h2);exact sa)) {} ?_)))
         rintro⟨A,c⟩
         exact TL.r 5 [] [(8,.slice A ((out_3++([r3.1])).length) c)] {} (TL.done rfl (TE.nb (TE.next (TC.region (TL.r 2 [] [(33,.i (w64 ((k_2:Int)+1)))] {} (TL.done rfl (TE.rw 33 (.i (w64 ((k_2:Int)+1))) (.i ((k_2+1:Nat):Int)) Kr (ZF k_2 (by (try have kl_:=Jd hr1 h1);(try have kp_:=Q2 hr2 h2);omega)) (TE.again (x:=(k_2,out_3,A_out_3,c_out_3)) (k_2+1,(out_3++([r3.1])),A,c) ⟨by omega,hI_2.trans (by subst hr1 hr2 hr3;rw[hd_2];exact Zb h5 (Zj h6 (rfl))),(by (try have kl_:=Jd hr1 h1);(try have kp_:=Q2 hr2 h2);exact sl)⟩ (mN hlt_2) Kr (sb 24)))))))))
        ·have q6_0:=(ZQ h6)
         exact TC.skip (TE.nb (TE.next (TC.region (TL.r 2 [] [(33,.i (w64 ((k_2:Int)+1)))] {} (TL.done rfl (TE.rw 33 (.i (w64 ((k_2:Int)+1))) (.i ((k_2+1:Nat):Int)) Kr (ZF k_2 (by (try have kl_:=Jd hr1 h1);(try have kp_:=Q2 hr2 h2);omega)) (TE.again (x:=(k_2,out_3,A_out_3,c_out_3)) (k_2+1,out_3,A_out_3,c_out_3) ⟨by omega,hI_2.trans (by subst hr1 hr2 hr3;rw[hd_2];exact Zb h5 (Zb h6 (rfl))),(by (try have kl_:=Jd hr1 h1);(try have kp_:=Q2 hr2 h2);exact sl)⟩ (mN hlt_2) Kr (sb 12))))))))
      ·have hd_2:=Qc h4
       refine TC.exit (TE.et (TE.et (TE.exit_same ?_)))
       exact TE.cut (out_3,A_out_3,c_out_3) (⟨hI_2.trans (by subst hr1 hr2;rw[hd_2];exact rfl),(by (try have kl_:=Jd hr1 h1);(try have kp_:=Q2 hr2 h2);exact sl)⟩) Kr (sb 2)
     ·rintro⟨out_4,A_out_4,c_out_4⟩ ⟨hJ_2,hl_out_4⟩
      exact TE.nb (TE.next (TC.region (TL.r 2 [] [(27,.i (w64 ((k:Int)+1)))] {} (TL.done rfl (TE.rw 27 (.i (w64 ((k:Int)+1))) (.i ((k+1:Nat):Int)) Kr (ZF k (by (try have kl_:=Jd hr1 h1);(try have kp_:=Q2 hr2 h2);omega)) (TE.again (x:=(k,out,A_out,c_out)) (k+1,out_4,A_out_4,c_out_4) ⟨by omega,hI.trans (by subst hr1 hr2;rw[hd];exact Ye (hR_2.symm.trans hJ_2) (rfl)),(by (try have kl_:=Jd hr1 h1);(try have kp_:=Q2 hr2 h2);exact sl)⟩ (mN hlt) Kr (sb 1)))))))
    ·have hd:=Qc h3
     refine TC.exit (TE.et (TE.et (TE.exit_same ?_)))
     exact TE.cut (out,A_out,c_out) (⟨hI.trans (by subst hr1 hr2;rw[hd];exact rfl),(by (try have kl_:=Jd hr1 h1);(try have kp_:=Q2 hr2 h2);exact sl)⟩) Kr (sb 1)
   ·rintro⟨out_2,A_out_2,c_out_2⟩ ⟨hJ,hl_out_2⟩
    refine TE.nr (TL.r 3 [] [(4,.slice A_out_2 out_2.length c_out_2),(5,.i 0)] {} (TL.next rfl (TC.ret ?_)))
    have e:Xm l plots=(out_2,0):=by subst hr1 hr2;unfold Xm;exact Zb h1 (Zb h2 (Ye (hR.symm.trans hJ) (rfl)))
    rw[e]
    exact TE.retM (.inl rfl) (A_out_2,c_out_2) [] (.tuple #[.slice A_out_2 out_2.length c_out_2,.i 0]) {} rfl (fun _ hM=>hM.sub (sb 1))
end Go.Sky
end
section
namespace Go.Sky
open Go Go.Eng Go.Proofs
def Yk (a:Zm) (b_:Zm):Int :=
 let r1:=cmp_Compare_int a.Time b_.Time
 let r2:=cmp_Compare_int a.Radar b_.Radar
 let r3:=cmp_Compare_int a.Range b_.Range
 let r4:=cmp_Compare_int a.Azimuth b_.Azimuth
 let r5:=cmp_Compare_int a.Height b_.Height
 let r6:=cmp_Compare_int a.Code b_.Code
 let r7:=QZ ([r1,r2,r3,r4,r5,r6])
 r7
set_option maxRecDepth 100000 in
theorem Wi (a:Zm) (b_:Zm) (w:World):Calls Tryz.prog 105 #[Zm.v a,Zm.v b_] w (Ret w (.int .i64 (Yk a b_))):=by
 exact Zk (vs:=[Zm.v a,Zm.v b_]) (w:=w) Tryz.func105 rfl Tryz.ntmps105 rfl (TC.sr (TL.nw 2 (fun b1=>.p0 b1) (fun b1=>Bk b1 (Zm.c a) 89) (fun b1=>{}) (fun b1=>TL.nw 3 (fun b2=>.p0 b2) (fun b2=>Bk b2 (Zm.c b_) 89) (fun b2=>{}) (fun b2=>TL.r 3 [] [(4,.i 0)] {} (TL.ns (TC.drawTail 30 Kr Kr (TQ.r 4 [1,0] [(6,.i a.Time),(8,.i b_.Time)] {} (TQ.c 9 (cmp_Compare_int a.Time b_.Time) (fun r1=>.i r1) (fun w _=>Ya a.Time b_.Time w) rfl {} (fun r1 hr1=>TQ.r 9 [1,0] [(11,.i a.Radar),(13,.i b_.Radar)] {} (TQ.c 14 (cmp_Compare_int a.Radar b_.Radar) (fun r2=>.i r2) (fun w _=>Ya a.Radar b_.Radar w) rfl {} (fun r2 hr2=>TQ.r 14 [1,0] [(16,.i a.Range),(18,.i b_.Range)] {} (TQ.c 19 (cmp_Compare_int a.Range b_.Range) (fun r3=>.i r3) (fun w _=>Ya a.Range b_.Range w) rfl {} (fun r3 hr3=>TQ.r 19 [1,0] [(21,.i a.Azimuth),(23,.i b_.Azimuth)] {} (TQ.c 24 (cmp_Compare_int a.Azimuth b_.Azimuth) (fun r4=>.i r4) (fun w _=>Ya a.Azimuth b_.Azimuth w) rfl {} (fun r4 hr4=>TQ.r 24 [1,0] [(26,.i a.Height),(28,.i b_.Height)] {} (TQ.c 29 (cmp_Compare_int a.Height b_.Height) (fun r5=>.i r5) (fun w _=>Ya a.Height b_.Height w) rfl {} (fun r5 hr5=>TQ.r 29 [1,0] [(31,.i a.Code),(33,.i b_.Code)] {} (TQ.c 34 (cmp_Compare_int a.Code b_.Code) (fun r6=>.i r6) (fun w _=>Ya a.Code b_.Code w) rfl {} (fun r6 hr6=>TQ.tail rfl (TL.nw 35 (fun b3=>.slice (Pa b3) 6 6) (fun b3=>Bk b3 #[.i r1,.i r2,.i r3,.i r4,.i r5,.i r6] 3) (fun b3=>{}) (fun b3=>TL.c 36 (QZ ([r1,r2,r3,r4,r5,r6])) (fun r7=>.i r7) (fun w hM=>VA (Pa b3) 6 ([r1,r2,r3,r4,r5,r6]) w (Rd.lit hM 0 _ rfl Kr Kr Kr) (Nat.le_refl _)) {} (fun r7 hr7=>TL.r 33 [] [(4,.i r7)] {} (TL.next rfl (TC.ret (TE.ret [] (.i r7) {} (by unfold Yk;refine eS (fun z=>(.i z:Value)) ?_;subst hr1 hr2 hr3 hr4 hr5 hr6 hr7;exact rfl))))))))))))))))))))))))))
end Go.Sky
end
section
namespace Go.Proofs
open Go.Shelf
def Tryz.laysPlot_ren:Go.Shelf.Ren:=⟨fun|6=>104|15=>141|14=>152|28=>179|29=>169|20=>184|21=>185|22=>186|23=>187|24=>188|25=>189|26=>190|27=>191|46=>219|47=>204|48=>205|49=>220|50=>221|57=>232|n=>n,fun|22=>83|24=>89|25=>192|3=>3|39=>227|0=>0|53=>251|55=>162|4=>4|46=>245|45=>244|50=>208|5=>5|9=>9|66=>268|70=>272|76=>280|77=>148|n=>n,fun|n=>n⟩
theorem Tryz.laysPlot:SlLaysF0.n6 Tryz.prog Tryz.laysPlot_ren:={
 mixed:=by kernel_rfl,
 f6:=⟨Tryz.f104.name,by decide,Tryz.func104.trans (congrArg some (by kernel_rfl))⟩,
 f14:=⟨Tryz.f152.name,by decide,Tryz.func152.trans (congrArg some (by kernel_rfl))⟩,
 f15:=Tryz.func141.trans (congrArg some (by kernel_rfl)),
 f20:=⟨Tryz.f184.name,by decide,Tryz.func184.trans (congrArg some (by kernel_rfl))⟩,
 f21:=⟨Tryz.f185.name,by decide,Tryz.func185.trans (congrArg some (by kernel_rfl))⟩,
 f22:=⟨Tryz.f186.name,by decide,Tryz.func186.trans (congrArg some (by kernel_rfl))⟩,
 f23:=⟨Tryz.f187.name,by decide,Tryz.func187.trans (congrArg some (by kernel_rfl))⟩,
 f24:=⟨Tryz.f188.name,by decide,Tryz.func188.trans (congrArg some (by kernel_rfl))⟩,
 f25:=⟨Tryz.f189.name,by decide,Tryz.func189.trans (congrArg some (by kernel_rfl))⟩,
 f26:=⟨Tryz.f190.name,by decide,Tryz.func190.trans (congrArg some (by kernel_rfl))⟩,
 f27:=⟨Tryz.f191.name,by decide,Tryz.func191.trans (congrArg some (by kernel_rfl))⟩,
 f28:=Tryz.func179.trans (congrArg some (by kernel_rfl)),
 f29:=Tryz.func169.trans (congrArg some (by kernel_rfl)),
 f46:=⟨Tryz.f219.name,by decide,Tryz.func219.trans (congrArg some (by kernel_rfl))⟩,
 f47:=Tryz.func204.trans (congrArg some (by kernel_rfl)),
 f48:=Tryz.func205.trans (congrArg some (by kernel_rfl)),
 f49:=⟨Tryz.f220.name,by decide,Tryz.func220.trans (congrArg some (by kernel_rfl))⟩,
 f50:=⟨Tryz.f221.name,by decide,Tryz.func221.trans (congrArg some (by kernel_rfl))⟩,
 f57:=⟨Tryz.f232.name,by decide,Tryz.func232.trans (congrArg some (by kernel_rfl))⟩,
 t0:=Tryz.underlying0,
 a0:=Tryz.isAgg0,
 z0:=Tryz.sizeOf0,
 v0:=Tryz.zeroValue0,
 t3:=Tryz.underlying3,
 a3:=Tryz.isAgg3,
 z3:=Tryz.sizeOf3,
 v3:=Tryz.zeroValue3,
 t4:=Tryz.underlying4,
 a4:=Tryz.isAgg4,
 z4:=Tryz.sizeOf4,
 v4:=Tryz.zeroValue4,
 t5:=Tryz.underlying5,
 a5:=Tryz.isAgg5,
 z5:=Tryz.sizeOf5,
 v5:=Tryz.zeroValue5,
 t9:=Tryz.underlying9,
 a9:=Tryz.isAgg9,
 z9:=Tryz.sizeOf9,
 v9:=Tryz.zeroValue9,
 t22:=Tryz.underlying83,
 a22:=Tryz.isAgg83,
 z22:=Tryz.sizeOf83,
 v22:=Tryz.zeroValue83,
 t25:=Tryz.underlying192,
 a25:=Tryz.isAgg192,
 z25:=Tryz.sizeOf192,
 v25:=Tryz.zeroValue192,
 t39:=Tryz.underlying227,
 a39:=Tryz.isAgg227,
 z39:=Tryz.sizeOf227,
 v39:=Tryz.zeroValue227,
 t45:=Tryz.underlying244,
 a45:=Tryz.isAgg244,
 z45:=Tryz.sizeOf244,
 v45:=Tryz.zeroValue244,
 t46:=Tryz.underlying245,
 a46:=Tryz.isAgg245,
 z46:=Tryz.sizeOf245,
 v46:=Tryz.zeroValue245,
 t50:=Tryz.underlying208,
 a50:=Tryz.isAgg208,
 z50:=Tryz.sizeOf208,
 v50:=Tryz.zeroValue208,
 t53:=Tryz.underlying251,
 a53:=Tryz.isAgg251,
 z53:=Tryz.sizeOf251,
 v53:=Tryz.zeroValue251,
 t55:=Tryz.underlying162,
 a55:=Tryz.isAgg162,
 z55:=Tryz.sizeOf162,
 v55:=Tryz.zeroValue162,
 t66:=Tryz.underlying268,
 a66:=Tryz.isAgg268,
 z66:=Tryz.sizeOf268,
 v66:=Tryz.zeroValue268,
 t70:=Tryz.underlying272,
 a70:=Tryz.isAgg272,
 z70:=Tryz.sizeOf272,
 v70:=Tryz.zeroValue272,
 t76:=Tryz.underlying280,
 a76:=Tryz.isAgg280,
 z76:=Tryz.sizeOf280,
 v76:=Tryz.zeroValue280,
 t77:=Tryz.underlying148,
 a77:=Tryz.isAgg148,
 z77:=Tryz.sizeOf148,
 v77:=Tryz.zeroValue148 }
end Go.Proofs
end
section
namespace Go.Srt
open Go Go.Eng Go.Sky Go.Proofs Go.Sort
def Bm (p:Zm):List Int:=[p.Time,p.Radar,p.Range,p.Azimuth,p.Height,p.Code]
theorem Fh (x y:Zm):ltOf Yk x y=lx (Bm x) (Bm y):=CQ (Bm x) (Bm y) 0 rfl
theorem Ih:SWO (ltOf Yk):=by
 have irr:∀ x,ltOf Yk x x=false:=fun x=>by
  cases h:ltOf Yk x x with
  | false=>rfl
  | true=>rw[Fh] at h;rw[Gq _ _ h] at h;cases h
 have ntr:∀ x y z,ltOf Yk x y=false→ltOf Yk y z=false→ltOf Yk x z=false:=fun x y z h1 h2=>by
  rw[Fh] at h1 h2 ⊢;exact Mc (Bm x) (Bm y) (Bm z) rfl rfl h1 h2
 refine⟨irr,fun x y z h1 h2=>?_,ntr⟩
 cases h:ltOf Yk x z with
 | true=>rfl
 | false =>
  exfalso
  have h3:ltOf Yk z y=false:=by rw[Fh] at h2 ⊢;exact Gq _ _ h2
  rw[ntr x z y h h3] at h1;cases h1
theorem Ii (x y:Zm) (h1:ltOf Yk x y=false) (h2:ltOf Yk y x=false):x=y:=by
 rw[Fh] at h1 h2
 have:=Md (Bm x) (Bm y) rfl h1 h2
 cases x;cases y
 simp[Bm] at this
 simp[this]
instance:Inhabited Zm:=⟨Zm.zero⟩
def UG (l:List Zm):List Zm:=l.mergeSort (fun x y=>!ltOf Yk y x)
theorem Ij (x y:Zm) (W:World):Calls Tryz.prog 105 #[.agg (Zm.c x),.agg (Zm.c y)] W (Ret W (.int .i64 (Yk x y))):=Wi x y W
set_option maxRecDepth 100000 in
theorem Ll (A:Option Addr) (cap e:Nat) (l:List Zm) (w:World) (hM:Sat ⟨w,Xj [.inr (Own A cap e 6 (l.map Zm.c))]⟩ [.inr (Own A cap e 6 (l.map Zm.c))] w) :
  Calls Tryz.prog 104 #[.slice A l.length cap,.func (.func 105) #[] #[]] w (QW (Γ:=List Zm) ⟨w,Xj [.inr (Own A cap e 6 (l.map Zm.c))]⟩ (fun _=>.tuple #[])
   (fun r=>[.inr (XF (r.length=l.length∧r=UG l)),.inr (Own A cap e 6 (r.map Zm.c))])) :=
 FR (P:=Tryz.prog) (c:=Zm.c) (k:=6) Tryz.laysPlot (fun _=>by kernel_rfl) (fun _=>by kernel_rfl) (fun _=>rfl) (fun x v hv=>by simp[Zm.c] at hv;rcases hv with rfl|rfl|rfl|rfl|rfl|rfl <;> rfl) Yk Ih 105 (fun _ _=>by kernel_rfl) Ij Ii A cap e l w hM
end Go.Srt
end
section
namespace Go.Srt
open Go Go.Eng
section
variable {T:Type}
def GF (q:T→T→Bool) (p:T):List T→List T
 | []=>[]
 | b::l=>if q b p=true then GF q b l else b::GF q b l
def cpt (q:T→T→Bool):List T→List T
 | []=>[]
 | a::l=>a::GF q a l
variable {q:T→T→Bool} {z:T}
theorem BJ (b:T):∀ (l:List T) (p:T),GF q p (l ++ [b])=GF q p l++(if q b ((p::l)[l.length]?.getD z)=true then [] else [b])
 | [],p=>by simp[GF]
 | a::l,p=>by
  have ih:=BJ b l a
  have e:(p::a::l)[(a::l).length]?.getD z=(a::l)[l.length]?.getD z:=by simp
  rw[e]
  simp only[List.cons_append,GF]
  rw[ih]
  split <;> simp
theorem NC (l:List T) (m:Nat) (h1:1≤m) (h2:m<l.length) :
  cpt q (l.take (m+1))=cpt q (l.take m)++(if q (l[m]?.getD z) (l[m-1]?.getD z)=true then [] else [l[m]?.getD z]):=by
 have e:l.take (m+1)=l.take m ++ [l[m]?.getD z]:=by
  rw[List.take_add_one,List.getElem?_eq_getElem h2];rfl
 rw[e]
 cases l with
 | nil=>simp at h2
 | cons a l =>
  obtain⟨n,rfl⟩:∃ n,m=n+1:=⟨m-1,by omega⟩
  simp only[List.length_cons] at h2
  simp only[List.take_succ_cons,List.cons_append,cpt,List.cons.injEq,true_and]
  rw[BJ (z:=z)]
  have hl:(l.take n).length=n:=by rw[List.length_take];omega
  have e2:(a::l.take n)[(l.take n).length]?.getD z=(a::l)[n+1-1]?.getD z:=by
   rw[hl,Nat.add_sub_cancel]
   cases n with
   | zero=>simp
   | succ n=>simp
  rw[e2]
theorem PX {l:List T} (h:2≤l.length):cpt q (l.take (1:Int).toNat)=l.take (1:Int).toNat:=by
 cases l with
 | nil=>simp at h
 | cons a l=>simp[cpt,GF]
theorem Wj {l:List T} (h:l.length<2):l=cpt q l:=by
 match l,h with
 | [],_=>rfl
 | [a],_=>rfl
theorem PY {l:List T} {k:Int} (h:cpt q (l.take k.toNat)=l.take k.toNat) (h2:(l.length:Int)≤k):l=cpt q l:=by
 rw[List.take_of_length_le (by omega)] at h;exact h.symm
theorem LX {l:List T} {k:Int} (h1:1≤k) (h2:k<l.length) (h:q (l[k.toNat]?.getD z) (l[(k-1).toNat]?.getD z)=false) :
  cpt q (l.take (k+1).toNat)=cpt q (l.take k.toNat) ++ [l[k.toNat]?.getD z]:=by
 have:=NC (q:=q) (z:=z) l k.toNat (by omega) (by omega)
 rw[show (k+1).toNat=k.toNat+1 by omega,this,show k.toNat-1=(k-1).toNat by omega,h];simp
theorem LY {l:List T} {k:Int} (h1:1≤k) (h2:k<l.length) (h:q (l[k.toNat]?.getD z) (l[(k-1).toNat]?.getD z)=true) :
  cpt q (l.take (k+1).toNat)=cpt q (l.take k.toNat):=by
 have:=NC (q:=q) (z:=z) l k.toNat (by omega) (by omega)
 rw[show (k+1).toNat=k.toNat+1 by omega,this,show k.toNat-1=(k-1).toNat by omega,h];simp
theorem BK {l:List T} {k:Int} (h1:0≤k) (h2:k<l.length):l.take (k+1).toNat=l.take k.toNat ++ [l[k.toNat]?.getD z]:=by
 rw[show (k+1).toNat=k.toNat+1 by omega,List.take_add_one,List.getElem?_eq_getElem (by omega)];rfl
theorem S8 {l:List T} {k:Int} (h:cpt q (l.take k.toNat)=l.take k.toNat) (h1:1≤k) (h2:k<l.length) (hq:q (l[k.toNat]?.getD z) (l[(k-1).toNat]?.getD z)=false) :
  cpt q (l.take (k+1).toNat)=l.take (k+1).toNat:=by rw[LX h1 h2 hq,h,BK (z:=z) (by omega) h2]
theorem OT {l:List T} {k:Int} (h:cpt q (l.take k.toNat)=l.take k.toNat) (h1:1≤k) (h2:k<l.length) (hq:q (l[k.toNat]?.getD z) (l[(k-1).toNat]?.getD z)=true) :
  cpt q (l.take (k+1).toNat)=l.take k.toNat:=by rw[LY h1 h2 hq,h]
def Cin (q:T→T→Bool) (l:List T) (b i k:Int) (d:List T):Prop:=cpt q (l.take (b+i).toNat)=d.take k.toNat∧d.drop (b+i-1).toNat=l.drop (b+i-1).toNat
theorem drop_at (l:List T) (b i:Int) (h1:0≤b) (h2:0≤i):(l.drop b.toNat)[i.toNat]?.getD z=l[(b+i).toNat]?.getD z:=by
 rw[List.getElem?_drop];congr 2;omega
theorem Lm {l d:List T} {a i:Nat} (h:d.drop a=l.drop a) (hi:a≤i):d[i]?=l[i]?:=by
 have:=congrArg (fun x=>x[i-a]?) h
 simp only[List.getElem?_drop] at this
 rwa [show a+(i-a)=i by omega] at this
theorem HQ {l d:List T} {b i k j:Int} (h:Cin q l b i k d) (h1:b+i-1≤b+j) (h2:1≤b) (h3:1≤i):(d.drop b.toNat)[j.toNat]?.getD z=l[(b+j).toNat]?.getD z:=by
 rw[drop_at d b j (by omega) (by omega),Lm h.2 (by omega)]
theorem RU {l:List T} {k:Int} (h:cpt q (l.take k.toNat)=l.take k.toNat) (h1:1≤k) (h2:k<l.length) (hq:q (l[k.toNat]?.getD z) (l[(k-1).toNat]?.getD z)=true):Cin q l k 1 k l :=
 ⟨OT h h1 h2 hq,rfl⟩
theorem S9 {l d:List T} {b i k:Int} (h:Cin q l b i k d) (h1:1≤b) (h2:1≤i) (h3:b+i<l.length)
  (hq:q ((d.drop b.toNat)[i.toNat]?.getD z) ((d.drop b.toNat)[(i-1).toNat]?.getD z)=true):Cin q l b (i+1) k d:=by
 rw[HQ h (by omega) h1 h2,HQ h (by omega) h1 h2] at hq
 rw[show b+(i-1)=b+i-1 by omega] at hq
 refine⟨?_,?_⟩
 ·rw[show b+(i+1)=(b+i)+1 by omega,LY (by omega) h3 hq];exact h.1
 ·have:=congrArg (List.drop 1) h.2
  rw[List.drop_drop,List.drop_drop] at this
  rwa [show (b+i-1).toNat+1=(b+(i+1)-1).toNat by omega] at this
theorem SA {l d:List T} {b i k:Int} (h:Cin q l b i k d) (h1:1≤b) (h2:1≤i) (h3:b+i<l.length) (h4:0≤k) (h5:k≤b+i-1) (h6:d.length=l.length)
  (hq:q ((d.drop b.toNat)[i.toNat]?.getD z) ((d.drop b.toNat)[(i-1).toNat]?.getD z)=false):Cin q l b (i+1) (k+1) (d.set k.toNat ((d.drop b.toNat)[i.toNat]?.getD z)):=by
 rw[HQ h (by omega) h1 h2,HQ h (by omega) h1 h2] at hq
 rw[show b+(i-1)=b+i-1 by omega] at hq
 rw[HQ h (by omega) h1 h2]
 refine⟨?_,?_⟩
 ·rw[show b+(i+1)=(b+i)+1 by omega,LX (by omega) h3 hq,h.1,BK (z:=z) h4 (by rw[List.length_set];omega)]
  rw[List.take_set_of_le (by omega),List.getElem?_set_self (by omega)];rfl
 ·have:=congrArg (List.drop 1) h.2
  rw[List.drop_drop,List.drop_drop] at this
  rw[show (b+i-1).toNat+1=(b+(i+1)-1).toNat by omega] at this
  rw[List.drop_set_of_lt (by omega)];exact this
theorem PZ {l d:List T} {b i k:Int} (h:Cin q l b i k d) (h1:(l.length:Int)≤b+i):d.take k.toNat=cpt q l:=by
 have:=h.1
 rw[List.take_of_length_le (by omega)] at this;exact this.symm
theorem UX {l:List T} {k:Nat} {x:List T} (h:k≤l.length):(l.take k++x).take k=l.take k:=by
 rw[List.take_append,List.take_of_length_le (by rw[List.length_take];omega),List.length_take,show k-min k l.length=0 by omega];simp
end
end Go.Srt
end
section
namespace Go.Sky
open Go Go.Eng Go.Proofs
open Go.Srt
set_option maxRecDepth 100000 in
theorem SB (A_x:Option Addr) (c_x:Nat) (x:List Zm) (w:World) (hM:Sat ⟨w,Xj [.inr (Own A_x c_x 89 6 (x.map Zm.c))]⟩ [.inr (Own A_x c_x 89 6 (x.map Zm.c))] w):Calls Tryz.prog 104 #[.slice A_x x.length c_x,.func (.func 105) #[] #[]] w (QW (Γ:=(List Zm)) ⟨w,Xj [.inr (Own A_x c_x 89 6 (x.map Zm.c))]⟩ (fun _=>.tuple #[]) (fun g=>[.inr (XF (g.length=x.length∧g=UG x)),.inr (Own A_x c_x 89 6 (g.map Zm.c))])):=by
 exact Ll A_x c_x _ x w hM
set_option maxHeartbeats 4000000 in
set_option maxRecDepth 100000 in
theorem Oa (A_s:Option Addr) (c_s:Nat) (s:List Zm) (w:World) (hM:Sat ⟨w,Xj [.inr (Own A_s c_s 89 6 (s.map Zm.c))]⟩ [.inr (Own A_s c_s 89 6 (s.map Zm.c))] w):Calls Tryz.prog 106 #[.slice A_s s.length c_s] w (QW (Γ:=(List Zm)) ⟨w,Xj [.inr (Own A_s c_s 89 6 (s.map Zm.c))]⟩ (fun g=>.slice A_s g.length c_s) (fun g=>[.inr (XF (g=cpt Zm.eqb s)),.inr (Own A_s c_s 89 6 (g.map Zm.c))])):=by
 refine Yv (w0:=⟨w,Xj [Ow A_s c_s 89 6 (s.map Zm.c)]⟩) (vs:=[.slice A_s s.length c_s]) hM Tryz.func106 rfl Tryz.ntmps106 rfl (TC.weak [(0,.slice A_s s.length c_s)] Kr (TC.know (fun w hM=>hM.short_at 0 rfl) (fun s_s=>TC.sr (TL.run 1 [] [(0,.slice A_s s.length c_s)] rfl {} (TL.ns (TC.sr (TL.run 3 [] [(0,.slice A_s s.length c_s),(8,.b (decide ((s.length:Int)<2)))] rfl {} (TL.next rfl (TC.cond (decide ((s.length:Int)<2)) rfl Kr (fun h1=>?_) (fun h1=>?_))))))))))
 ·exact TC.sr (TL.run 2 [] [(2,.slice A_s s.length c_s)] rfl {} (TL.next rfl (TC.ret (TE.rt (TE.retM (.inl rfl) s [] (.slice A_s s.length c_s) {} rfl (fun _ hM=>(hM.sub (sb 1)).fact (by have q0_:=(Z1 h1);(try dsimp only);first|exact Wj (by omega)|exact(by rw[hclr];exact(UX (by omega)).trans ho1.2)|exact ho0)))))))
 ·refine TC.sn (TC.seq (TC.sr (TL.run 1 [] [(0,.slice A_s s.length c_s),(3,.i 1)] rfl {} (TL.next rfl (TC.weak [(0,.slice A_s s.length c_s),(3,.i 1)] Kr (TC.cut (S:=Unit) (fun (_:Unit)=>[(0,.slice A_s s.length c_s)]) (fun (_:Unit)=>[Ow A_s c_s 89 6 (s.map Zm.c)]) (fun (_:Unit)=>(s=cpt Zm.eqb s)) ?_ ?_))))))
  ·refine TC.block (TC.loop (X:=Int) (fun k_2=>[(0,.slice A_s s.length c_s),(3,.i k_2)]) (fun k_2=>[Ow A_s c_s 89 6 (s.map Zm.c)]) (fun k_2=>((s.length:Int)-k_2).toNat) (fun k_2=>((1≤k_2∧k_2≤(s.length:Int))∧cpt Zm.eqb (s.take k_2.toNat)=s.take k_2.toNat)) ?_ 1 (by have q0_:=(Zq h1);first|exact⟨by omega,PX (by omega)⟩))
   rintro k_2 hv0
   refine TC.seq (TC.sr (TL.run 4 [] [(0,.slice A_s s.length c_s),(3,.i k_2),(13,.b (decide (k_2<(s.length:Int))))] rfl {} (TL.next rfl (TC.cond (decide (k_2<(s.length:Int))) rfl Kr (fun h2=>?_) (fun h2=>?_)))))
   ·refine TC.sn (TC.seq (TC.block (TC.seq (TC.draw 10 Kr Kr Kr (TQ.run 2 [] [(0,.slice A_s s.length c_s),(3,.i k_2),(16,.slice A_s s.length c_s),(17,.i k_2)] rfl {} (TQ.val (sV (Instr.indexAt 83 (.slice A_s s.length c_s) (.i k_2))) (some 18) (.pointer (some (Ix A_s (k_2.toNat*6)))) [(0,.slice A_s s.length c_s),(3,.i k_2),(18,.pointer (some (Ix A_s (k_2.toNat*6))))] (fun w hM=>Zp (hM.rd_at 0 rfl) (by simp) Kr (by have q0_:=(Zq h1);have q1_:=(Z1 h2);have kv0_:=hv0.1;exact sd) (by have q0_:=(Zq h1);have q1_:=(Z1 h2);have kv0_:=hv0.1;exact sd)) rfl Kr Kr (TQ.val (sV (Instr.loadAt 89 (.pointer (some (Ix A_s (k_2.toNat*6)))))) (some 19) (Zm.v (s[k_2.toNat]?.getD Zm.zero)) [(0,.slice A_s s.length c_s),(3,.i k_2),(19,Zm.v (s[k_2.toNat]?.getD Zm.zero))] (fun w hM=>Z6 (n:=6) (off:=0) (i:=k_2.toNat) (Zm.v (s[k_2.toNat]?.getD Zm.zero)) (hM.rd_at 0 rfl) (Z8 (getD_at _ _ Zm.zero (by have q0_:=(Zq h1);have q1_:=(Z1 h2);have kv0_:=hv0.1;exact sd))) Kr Kr Kr) rfl Kr Kr (TQ.run 7 [] [(0,.slice A_s s.length c_s),(3,.i k_2),(19,Zm.v (s[k_2.toNat]?.getD Zm.zero)),(20,.slice A_s s.length c_s),(22,.i (w64 (k_2-1)))] rfl {} (TQ.rw 22 (.i (w64 (k_2-1))) (.i (k_2-1)) Kr (int_eq (by have q0_:=(Zq h1);have q1_:=(Z1 h2);have kv0_:=hv0.1;rw[Zn (x:=(k_2-1)) (by omega)])) (TQ.val (sV (Instr.indexAt 83 (.slice A_s s.length c_s) (.i (k_2-1)))) (some 23) (.pointer (some (Ix A_s ((k_2-1).toNat*6)))) [(0,.slice A_s s.length c_s),(3,.i k_2),(19,Zm.v (s[k_2.toNat]?.getD Zm.zero)),(23,.pointer (some (Ix A_s ((k_2-1).toNat*6))))] (fun w hM=>Zp (hM.rd_at 0 rfl) (by simp) Kr (by have q0_:=(Zq h1);have q1_:=(Z1 h2);have kv0_:=hv0.1;exact sd) (by have q0_:=(Zq h1);have q1_:=(Z1 h2);have kv0_:=hv0.1;exact sd)) rfl Kr Kr (TQ.val (sV (Instr.loadAt 89 (.pointer (some (Ix A_s ((k_2-1).toNat*6)))))) (some 24) (Zm.v (s[(k_2-1).toNat]?.getD Zm.zero)) [(0,.slice A_s s.length c_s),(3,.i k_2),(19,Zm.v (s[k_2.toNat]?.getD Zm.zero)),(24,Zm.v (s[(k_2-1).toNat]?.getD Zm.zero))] (fun w hM=>Z6 (n:=6) (off:=0) (i:=(k_2-1).toNat) (Zm.v (s[(k_2-1).toNat]?.getD Zm.zero)) (hM.rd_at 0 rfl) (Z8 (getD_at _ _ Zm.zero (by have q0_:=(Zq h1);have q1_:=(Z1 h2);have kv0_:=hv0.1;exact sd))) Kr Kr Kr) rfl Kr Kr (TQ.val (sV (do eqGuard .eql 89 (.tmp 19) (.tmp 24) (Zm.v (s[k_2.toNat]?.getD Zm.zero)) (Zm.v (s[(k_2-1).toNat]?.getD Zm.zero));binOp .eql 89 (Zm.v (s[k_2.toNat]?.getD Zm.zero)) (Zm.v (s[(k_2-1).toNat]?.getD Zm.zero)))) (some 25) (.b (Zm.eqb (s[k_2.toNat]?.getD Zm.zero) (s[(k_2-1).toNat]?.getD Zm.zero))) [(0,.slice A_s s.length c_s),(3,.i k_2),(25,.b (Zm.eqb (s[k_2.toNat]?.getD Zm.zero) (s[(k_2-1).toNat]?.getD Zm.zero)))] (fun w hM=>SN (b:=Zm.eqb (s[k_2.toNat]?.getD Zm.zero) (s[(k_2-1).toNat]?.getD Zm.zero)) Kr Kr w) rfl Kr Kr (TQ.next rfl (TC.cond (Zm.eqb (s[k_2.toNat]?.getD Zm.zero) (s[(k_2-1).toNat]?.getD Zm.zero)) rfl Kr (fun h3=>?_) (fun h3=>?_)))))))))))))))
    ·refine TC.sr (TL.run 2 [] [(0,.slice A_s s.length c_s),(3,.i k_2),(26,.slice A_s s.length c_s),(27,.i k_2)] rfl {} ?_)
     obtain⟨A1,hA1⟩:∃ A0_,A0_=(if c_s=k_2.toNat then A_s else A_s.map (fun a=>a.add (k_2.toNat*6))):=⟨_,rfl⟩
     refine TL.val (sV (Instr.sliceAt 83 (.slice A_s s.length c_s) (some (.i k_2)) none none)) (some 28) (.slice A1 ((s.drop k_2.toNat).length) (c_s-k_2.toNat)) [(0,.slice A_s s.length c_s),(3,.i k_2),(28,.slice A1 ((s.drop k_2.toNat).length) (c_s-k_2.toNat))] (fun w hM=>(JE k_2.toNat s.length Kr (.inr ⟨_,_,rfl,(by have q0_:=(Zq h1);have q1_:=(Z1 h2);have kv0_:=hv0.1;exact sd),rfl⟩) (.inl ⟨rfl,rfl⟩) (by have q0_:=(Zq h1);have q1_:=(Z1 h2);have kv0_:=hv0.1;exact sd) (Nat.le_trans (Nat.le_refl _) (hM.le_at 0 rfl))).trans (by rw[hA1];have q0_:=(Zq h1);have q1_:=(Z1 h2);have kv0_:=hv0.1;congr 3;simp only[List.length_drop])) Kr Kr (TL.run 4 [] [(0,.slice A_s s.length c_s),(3,.i k_2),(4,.slice A1 ((s.drop k_2.toNat).length) (c_s-k_2.toNat))] rfl {} (TL.ns (TC.sr (TL.run 1 [] [(0,.slice A_s s.length c_s),(3,.i k_2),(4,.slice A1 ((s.drop k_2.toNat).length) (c_s-k_2.toNat)),(5,.i 1)] rfl {} (TL.next rfl (TC.weak [(0,.slice A_s s.length c_s),(3,.i k_2),(4,.slice A1 ((s.drop k_2.toNat).length) (c_s-k_2.toNat)),(5,.i 1)] Kr (TC.cut (S:=Int×(List Zm)) (fun (k_5,s_3)=>[(0,.slice A_s s_3.length c_s),(3,.i k_5)]) (fun (k_5,s_3)=>[Ow A_s c_s 89 6 (s_3.map Zm.c)]) (fun (k_5,s_3)=>((0≤k_5∧k_5≤(s.length:Int))∧s_3.take k_5.toNat=cpt Zm.eqb s)∧s_3.length=s.length) ?_ ?_)))))))
     ·refine TC.block (TC.loop (X:=Int×Int×(List Zm)) (fun (k_4,k2,s_2)=>[(0,.slice A_s s_2.length c_s),(3,.i k_4),(4,.slice A1 ((s.drop k_2.toNat).length) (c_s-k_2.toNat)),(5,.i k2)]) (fun (k_4,k2,s_2)=>[Ow A_s c_s 89 6 (s_2.map Zm.c)]) (fun (k_4,k2,s_2)=>((s.length:Int)-k2).toNat) (fun (k_4,k2,s_2)=>((1≤k2∧k_2+k2≤(s.length:Int)∧k_2≤k_4∧k_4+1≤k_2+k2)∧Cin Zm.eqb s k_2 k2 k_4 s_2)∧s_2.length=s.length) ?_ (k_2,1,s) ⟨(by have q0_:=(Zq h1);have q1_:=(Z1 h2);have kv0_:=hv0.1;first|exact⟨by omega,RU hv0.2 (by omega) (by omega) (by first|assumption|exact Bq (by assumption)|exact Br (by assumption))⟩),(by simp)⟩)
      rintro⟨k_4,k2,s_2⟩ ⟨hv1,hl_s_2⟩
      refine TC.seq (TC.sr (TL.run 4 [] [(0,.slice A_s s_2.length c_s),(3,.i k_4),(4,.slice A1 ((s.drop k_2.toNat).length) (c_s-k_2.toNat)),(5,.i k2),(32,.b (decide (k2<((s.drop k_2.toNat).length:Int))))] rfl {} (TL.next rfl (TC.cond (decide (k2<((s.drop k_2.toNat).length:Int))) rfl Kr (fun h4=>?_) (fun h4=>?_)))))
      ·refine TC.sn (TC.seq (TC.block (TC.seq (TC.draw 10 Kr Kr Kr (TQ.run 2 [] [(0,.slice A_s s_2.length c_s),(3,.i k_4),(4,.slice A1 ((s.drop k_2.toNat).length) (c_s-k_2.toNat)),(5,.i k2),(35,.slice A1 ((s.drop k_2.toNat).length) (c_s-k_2.toNat)),(36,.i k2)] rfl {} (TQ.val (sV (Instr.indexAt 83 (.slice A1 ((s.drop k_2.toNat).length) (c_s-k_2.toNat)) (.i k2))) (some 37) (.pointer (some (Ix A1 (k2.toNat*6)))) [(0,.slice A_s s_2.length c_s),(3,.i k_4),(4,.slice A1 ((s.drop k_2.toNat).length) (c_s-k_2.toNat)),(5,.i k2),(37,.pointer (some (Ix A1 (k2.toNat*6))))] (fun w hM=>Zp (by have hR0_:=hM.rd_at 0 rfl;have hC0_:=hM.le_at 0 rfl;rw[hA1];exact hR0_.dropMap k_2.toNat hC0_) (by simp only[List.length_map,List.length_drop];first|rfl|omega) Kr (by have q0_:=(Zq h1);have q1_:=(Z1 h2);have q2_:=(Z1 h4);have kv0_:=hv0.1;have kv1_:=hv1.1;have kd_:=List.length_drop (i:=(k_2).toNat) (l:=s);have ke_:=List.length_drop (i:=(k_2).toNat) (l:=s_2);exact sd) (by have q0_:=(Zq h1);have q1_:=(Z1 h2);have q2_:=(Z1 h4);have kv0_:=hv0.1;have kv1_:=hv1.1;have kd_:=List.length_drop (i:=(k_2).toNat) (l:=s);have ke_:=List.length_drop (i:=(k_2).toNat) (l:=s_2);exact sd)) rfl Kr Kr (TQ.val (sV (Instr.loadAt 89 (.pointer (some (Ix A1 (k2.toNat*6)))))) (some 38) (Zm.v ((s_2.drop k_2.toNat)[k2.toNat]?.getD Zm.zero)) [(0,.slice A_s s_2.length c_s),(3,.i k_4),(4,.slice A1 ((s.drop k_2.toNat).length) (c_s-k_2.toNat)),(5,.i k2),(38,Zm.v ((s_2.drop k_2.toNat)[k2.toNat]?.getD Zm.zero))] (fun w hM=>Z6 (n:=6) (off:=0) (i:=k2.toNat) (Zm.v ((s_2.drop k_2.toNat)[k2.toNat]?.getD Zm.zero)) (by have hR0_:=hM.rd_at 0 rfl;have hC0_:=hM.le_at 0 rfl;rw[hA1];exact hR0_.dropMap k_2.toNat hC0_) (Z8 (getD_at _ _ Zm.zero (by have q0_:=(Zq h1);have q1_:=(Z1 h2);have q2_:=(Z1 h4);have kv0_:=hv0.1;have kv1_:=hv1.1;have kd_:=List.length_drop (i:=(k_2).toNat) (l:=s);have ke_:=List.length_drop (i:=(k_2).toNat) (l:=s_2);exact sd))) Kr Kr Kr) rfl Kr Kr (TQ.run 7 [] [(0,.slice A_s s_2.length c_s),(3,.i k_4),(4,.slice A1 ((s.drop k_2.toNat).length) (c_s-k_2.toNat)),(5,.i k2),(38,Zm.v ((s_2.drop k_2.toNat)[k2.toNat]?.getD Zm.zero)),(39,.slice A1 ((s.drop k_2.toNat).length) (c_s-k_2.toNat)),(41,.i (w64 (k2-1)))] rfl {} (TQ.rw 41 (.i (w64 (k2-1))) (.i (k2-1)) Kr (int_eq (by have q0_:=(Zq h1);have q1_:=(Z1 h2);have q2_:=(Z1 h4);have kv0_:=hv0.1;have kv1_:=hv1.1;have kd_:=List.length_drop (i:=(k_2).toNat) (l:=s);have ke_:=List.length_drop (i:=(k_2).toNat) (l:=s_2);rw[Zn (x:=(k2-1)) (by omega)])) (TQ.val (sV (Instr.indexAt 83 (.slice A1 ((s.drop k_2.toNat).length) (c_s-k_2.toNat)) (.i (k2-1)))) (some 42) (.pointer (some (Ix A1 ((k2-1).toNat*6)))) [(0,.slice A_s s_2.length c_s),(3,.i k_4),(4,.slice A1 ((s.drop k_2.toNat).length) (c_s-k_2.toNat)),(5,.i k2),(38,Zm.v ((s_2.drop k_2.toNat)[k2.toNat]?.getD Zm.zero)),(42,.pointer (some (Ix A1 ((k2-1).toNat*6))))] (fun w hM=>Zp (by have hR0_:=hM.rd_at 0 rfl;have hC0_:=hM.le_at 0 rfl;rw[hA1];exact hR0_.dropMap k_2.toNat hC0_) (by simp only[List.length_map,List.length_drop];first|rfl|omega) Kr (by have q0_:=(Zq h1);have q1_:=(Z1 h2);have q2_:=(Z1 h4);have kv0_:=hv0.1;have kv1_:=hv1.1;have kd_:=List.length_drop (i:=(k_2).toNat) (l:=s);have ke_:=List.length_drop (i:=(k_2).toNat) (l:=s_2);exact sd) (by have q0_:=(Zq h1);have q1_:=(Z1 h2);have q2_:=(Z1 h4);have kv0_:=hv0.1;have kv1_:=hv1.1;have kd_:=List.length_drop (i:=(k_2).toNat) (l:=s);have ke_:=List.length_drop (i:=(k_2).toNat) (l:=s_2);exact sd)) rfl Kr Kr (TQ.val (sV (Instr.loadAt 89 (.pointer (some (Ix A1 ((k2-1).toNat*6)))))) (some 43) (Zm.v ((s_2.drop k_2.toNat)[(k2-1).toNat]?.getD Zm.zero)) [(0,.slice A_s s_2.length c_s),(3,.i k_4),(4,.slice A1 ((s.drop k_2.toNat).length) (c_s-k_2.toNat)),(5,.i k2),(38,Zm.v ((s_2.drop k_2.toNat)[k2.toNat]?.getD Zm.zero)),(43,Zm.v ((s_2.drop k_2.toNat)[(k2-1).toNat]?.getD Zm.zero))] (fun w hM=>Z6 (n:=6) (off:=0) (i:=(k2-1).toNat) (Zm.v ((s_2.drop k_2.toNat)[(k2-1).toNat]?.getD Zm.zero)) (by have hR0_:=hM.rd_at 0 rfl;have hC0_:=hM.le_at 0 rfl;rw[hA1];exact hR0_.dropMap k_2.toNat hC0_) (Z8 (getD_at _ _ Zm.zero (by have q0_:=(Zq h1);have q1_:=(Z1 h2);have q2_:=(Z1 h4);have kv0_:=hv0.1;have kv1_:=hv1.1;have kd_:=List.length_drop (i:=(k_2).toNat) (l:=s);have ke_:=List.length_drop (i:=(k_2).toNat) (l:=s_2);exact sd))) Kr Kr Kr) rfl Kr Kr (TQ.val (sV (do eqGuard .neq 89 (.tmp 38) (.tmp 43) (Zm.v ((s_2.drop k_2.toNat)[k2.toNat]?.getD Zm.zero)) (Zm.v ((s_2.drop k_2.toNat)[(k2-1).toNat]?.getD Zm.zero));binOp .neq 89 (Zm.v ((s_2.drop k_2.toNat)[k2.toNat]?.getD Zm.zero)) (Zm.v ((s_2.drop k_2.toNat)[(k2-1).toNat]?.getD Zm.zero)))) (some 44) (.b (!(Zm.eqb ((s_2.drop k_2.toNat)[k2.toNat]?.getD Zm.zero) ((s_2.drop k_2.toNat)[(k2-1).toNat]?.getD Zm.zero)))) [(0,.slice A_s s_2.length c_s),(3,.i k_4),(4,.slice A1 ((s.drop k_2.toNat).length) (c_s-k_2.toNat)),(5,.i k2),(44,.b (!(Zm.eqb ((s_2.drop k_2.toNat)[k2.toNat]?.getD Zm.zero) ((s_2.drop k_2.toNat)[(k2-1).toNat]?.getD Zm.zero))))] (fun w hM=>L2 (b:=Zm.eqb ((s_2.drop k_2.toNat)[k2.toNat]?.getD Zm.zero) ((s_2.drop k_2.toNat)[(k2-1).toNat]?.getD Zm.zero)) Kr Kr w) rfl Kr Kr (TQ.next rfl (TC.cond (!(Zm.eqb ((s_2.drop k_2.toNat)[k2.toNat]?.getD Zm.zero) ((s_2.drop k_2.toNat)[(k2-1).toNat]?.getD Zm.zero))) rfl Kr (fun h5=>?_) (fun h5=>?_)))))))))))))))
       ·exact TC.sr (TL.run 4 [] [(0,.slice A_s s_2.length c_s),(3,.i k_4),(4,.slice A1 ((s.drop k_2.toNat).length) (c_s-k_2.toNat)),(5,.i k2),(45,.slice A_s s_2.length c_s),(46,.i k_4),(47,.slice A1 ((s.drop k_2.toNat).length) (c_s-k_2.toNat)),(48,.i k2)] rfl {} (TL.val (sV (Instr.indexAt 83 (.slice A1 ((s.drop k_2.toNat).length) (c_s-k_2.toNat)) (.i k2))) (some 49) (.pointer (some (Ix A1 (k2.toNat*6)))) [(0,.slice A_s s_2.length c_s),(3,.i k_4),(4,.slice A1 ((s.drop k_2.toNat).length) (c_s-k_2.toNat)),(5,.i k2),(45,.slice A_s s_2.length c_s),(46,.i k_4),(49,.pointer (some (Ix A1 (k2.toNat*6))))] (fun w hM=>Zp (by have hR0_:=hM.rd_at 0 rfl;have hC0_:=hM.le_at 0 rfl;rw[hA1];exact hR0_.dropMap k_2.toNat hC0_) (by simp only[List.length_map,List.length_drop];first|rfl|omega) Kr (by have q0_:=(Zq h1);have q1_:=(Z1 h2);have q2_:=(Z1 h4);have kv0_:=hv0.1;have kv1_:=hv1.1;have kd_:=List.length_drop (i:=(k_2).toNat) (l:=s);have ke_:=List.length_drop (i:=(k_2).toNat) (l:=s_2);exact sd) (by have q0_:=(Zq h1);have q1_:=(Z1 h2);have q2_:=(Z1 h4);have kv0_:=hv0.1;have kv1_:=hv1.1;have kd_:=List.length_drop (i:=(k_2).toNat) (l:=s);have ke_:=List.length_drop (i:=(k_2).toNat) (l:=s_2);exact sd)) Kr Kr (TL.val (sV (Instr.loadAt 89 (.pointer (some (Ix A1 (k2.toNat*6)))))) (some 50) (Zm.v ((s_2.drop k_2.toNat)[k2.toNat]?.getD Zm.zero)) [(0,.slice A_s s_2.length c_s),(3,.i k_4),(4,.slice A1 ((s.drop k_2.toNat).length) (c_s-k_2.toNat)),(5,.i k2),(45,.slice A_s s_2.length c_s),(46,.i k_4),(50,Zm.v ((s_2.drop k_2.toNat)[k2.toNat]?.getD Zm.zero))] (fun w hM=>Z6 (n:=6) (off:=0) (i:=k2.toNat) (Zm.v ((s_2.drop k_2.toNat)[k2.toNat]?.getD Zm.zero)) (by have hR0_:=hM.rd_at 0 rfl;have hC0_:=hM.le_at 0 rfl;rw[hA1];exact hR0_.dropMap k_2.toNat hC0_) (Z8 (getD_at _ _ Zm.zero (by have q0_:=(Zq h1);have q1_:=(Z1 h2);have q2_:=(Z1 h4);have kv0_:=hv0.1;have kv1_:=hv1.1;have kd_:=List.length_drop (i:=(k_2).toNat) (l:=s);have ke_:=List.length_drop (i:=(k_2).toNat) (l:=s_2);exact sd))) Kr Kr Kr) Kr Kr (TL.val (sV (Instr.indexAt 83 (.slice A_s s_2.length c_s) (.i k_4))) (some 51) (.pointer (some (Ix A_s (k_4.toNat*6)))) [(0,.slice A_s s_2.length c_s),(3,.i k_4),(4,.slice A1 ((s.drop k_2.toNat).length) (c_s-k_2.toNat)),(5,.i k2),(50,Zm.v ((s_2.drop k_2.toNat)[k2.toNat]?.getD Zm.zero)),(51,.pointer (some (Ix A_s (k_4.toNat*6))))] (fun w hM=>Zp (hM.rd_at 0 rfl) (by simp) Kr (by have q0_:=(Zq h1);have q1_:=(Z1 h2);have q2_:=(Z1 h4);have kv0_:=hv0.1;have kv1_:=hv1.1;have kd_:=List.length_drop (i:=(k_2).toNat) (l:=s);have ke_:=List.length_drop (i:=(k_2).toNat) (l:=s_2);exact sd) (by have q0_:=(Zq h1);have q1_:=(Z1 h2);have q2_:=(Z1 h4);have kv0_:=hv0.1;have kv1_:=hv1.1;have kd_:=List.length_drop (i:=(k_2).toNat) (l:=s);have ke_:=List.length_drop (i:=(k_2).toNat) (l:=s_2);exact sd)) Kr Kr (TL.skipM (Γ:=Unit) (sU (Instr.storeAt 89 (.pointer (some ((Ix A_s (k_4.toNat*6)).add 0))) (Zm.v ((s_2.drop k_2.toNat)[k2.toNat]?.getD Zm.zero)))) none (fun _=>[Ow A_s c_s 89 6 ((s_2.set k_4.toNat ((s_2.drop k_2.toNat)[k2.toNat]?.getD Zm.zero)).map Zm.c)]) (fun _=>[(0,.slice A_s s_2.length c_s),(3,.i k_4),(4,.slice A1 ((s.drop k_2.toNat).length) (c_s-k_2.toNat)),(5,.i k2)]) (Yw (n:=6) (off:=0) (Zm.v ((s_2.drop k_2.toNat)[k2.toNat]?.getD Zm.zero)) 0 ((s_2.set k_4.toNat ((s_2.drop k_2.toNat)[k2.toNat]?.getD Zm.zero)).map Zm.c) rfl (Z8 (getD_at _ _ Zm.zero (by have q0_:=(Zq h1);have q1_:=(Z1 h2);have q2_:=(Z1 h4);have kv0_:=hv0.1;have kv1_:=hv1.1;have kd_:=List.length_drop (i:=(k_2).toNat) (l:=s);have ke_:=List.length_drop (i:=(k_2).toNat) (l:=s_2);exact sd))) Kr Kr Kr Kr (Xa Kr)) Kr (fun _=>Kr) (fun _=>TL.rw 0 (.slice A_s s_2.length c_s) (.slice A_s ((s_2.set k_4.toNat ((s_2.drop k_2.toNat)[k2.toNat]?.getD Zm.zero)).length) c_s) Kr (by simp only[List.length_set]) (TL.next rfl (TC.region (TL.run 3 [] [(0,.slice A_s ((s_2.set k_4.toNat ((s_2.drop k_2.toNat)[k2.toNat]?.getD Zm.zero)).length) c_s),(3,.i (w64 (k_4+1))),(4,.slice A1 ((s.drop k_2.toNat).length) (c_s-k_2.toNat)),(5,.i k2)] rfl {} (TL.rw 3 (.i (w64 (k_4+1))) (.i (k_4+1)) Kr (int_eq (by have q0_:=(Zq h1);have q1_:=(Z1 h2);have q2_:=(Z1 h4);have kv0_:=hv0.1;have kv1_:=hv1.1;have kd_:=List.length_drop (i:=(k_2).toNat) (l:=s);have ke_:=List.length_drop (i:=(k_2).toNat) (l:=s_2);rw[Zn (x:=(k_4+1)) (by omega)])) (TL.done rfl (TE.nb (TE.next (TC.region (TL.run 3 [] [(0,.slice A_s ((s_2.set k_4.toNat ((s_2.drop k_2.toNat)[k2.toNat]?.getD Zm.zero)).length) c_s),(3,.i (k_4+1)),(4,.slice A1 ((s.drop k_2.toNat).length) (c_s-k_2.toNat)),(5,.i (w64 (k2+1)))] rfl {} (TL.rw 5 (.i (w64 (k2+1))) (.i (k2+1)) Kr (int_eq (by have q0_:=(Zq h1);have q1_:=(Z1 h2);have q2_:=(Z1 h4);have kv0_:=hv0.1;have kv1_:=hv1.1;have kd_:=List.length_drop (i:=(k_2).toNat) (l:=s);have ke_:=List.length_drop (i:=(k_2).toNat) (l:=s_2);rw[Zn (x:=(k2+1)) (by omega)])) (TL.done rfl (TE.again (x:=(k_4,k2,s_2)) ((k_4+1),(k2+1),(s_2.set k_4.toNat ((s_2.drop k_2.toNat)[k2.toNat]?.getD Zm.zero))) ⟨(by have q0_:=(Zq h1);have q1_:=(Z1 h2);have q2_:=(Z1 h4);have kv0_:=hv0.1;have kv1_:=hv1.1;have kd_:=List.length_drop (i:=(k_2).toNat) (l:=s);have ke_:=List.length_drop (i:=(k_2).toNat) (l:=s_2);first|exact⟨by omega,SA hv1.2 (by omega) (by omega) (by omega) (by omega) (by omega) (by omega) (by first|assumption|exact Bq (by assumption)|exact Br (by assumption))⟩|exact⟨by omega,S9 hv1.2 (by omega) (by omega) (by omega) (by first|assumption|exact Bq (by assumption)|exact Br (by assumption))⟩),(by first|rfl|omega|(simp only[List.length_set];omega))⟩ (by have q0_:=(Zq h1);have q1_:=(Z1 h2);have q2_:=(Z1 h4);have kv0_:=hv0.1;have kv1_:=hv1.1;have kd_:=List.length_drop (i:=(k_2).toNat) (l:=s);have ke_:=List.length_drop (i:=(k_2).toNat) (l:=s_2);(try dsimp only);omega) Kr (sb 1)))))))))))))))))))
       ·exact TC.skip (TE.nb (TE.next (TC.region (TL.run 3 [] [(0,.slice A_s s_2.length c_s),(3,.i k_4),(4,.slice A1 ((s.drop k_2.toNat).length) (c_s-k_2.toNat)),(5,.i (w64 (k2+1)))] rfl {} (TL.rw 5 (.i (w64 (k2+1))) (.i (k2+1)) Kr (int_eq (by have q0_:=(Zq h1);have q1_:=(Z1 h2);have q2_:=(Z1 h4);have kv0_:=hv0.1;have kv1_:=hv1.1;have kd_:=List.length_drop (i:=(k_2).toNat) (l:=s);have ke_:=List.length_drop (i:=(k_2).toNat) (l:=s_2);rw[Zn (x:=(k2+1)) (by omega)])) (TL.done rfl (TE.again (x:=(k_4,k2,s_2)) (k_4,(k2+1),s_2) ⟨(by have q0_:=(Zq h1);have q1_:=(Z1 h2);have q2_:=(Z1 h4);have kv0_:=hv0.1;have kv1_:=hv1.1;have kd_:=List.length_drop (i:=(k_2).toNat) (l:=s);have ke_:=List.length_drop (i:=(k_2).toNat) (l:=s_2);first|exact⟨by omega,SA hv1.2 (by omega) (by omega) (by omega) (by omega) (by omega) (by omega) (by first|assumption|exact Bq (by assumption)|exact Br (by assumption))⟩|exact⟨by omega,S9 hv1.2 (by omega) (by omega) (by omega) (by first|assumption|exact Bq (by assumption)|exact Br (by assumption))⟩),(by first|rfl|omega|(simp only[List.length_set];omega))⟩ (by have q0_:=(Zq h1);have q1_:=(Z1 h2);have q2_:=(Z1 h4);have kv0_:=hv0.1;have kv1_:=hv1.1;have kd_:=List.length_drop (i:=(k_2).toNat) (l:=s);have ke_:=List.length_drop (i:=(k_2).toNat) (l:=s_2);(try dsimp only);omega) Kr (sb 1))))))))
      ·refine TC.exit (TE.et (TE.et (TE.exit_same ?_)))
       exact TE.cut (k_4,s_2) ⟨(by have q0_:=(Zq h1);have q1_:=(Z1 h2);have q2_:=(Zq h4);have kv0_:=hv0.1;have kv1_:=hv1.1;have kd_:=List.length_drop (i:=(k_2).toNat) (l:=s);have ke_:=List.length_drop (i:=(k_2).toNat) (l:=s_2);first|exact⟨by omega,PZ hv1.2 (by omega)⟩),(by first|rfl|omega|(simp only[List.length_set];omega))⟩ Kr (sb 1)
     ·rintro⟨k_5,s_3⟩ ⟨ho1,hl_s_3⟩
      refine TE.nr (TL.run 2 [] [(0,.slice A_s s_3.length c_s),(3,.i k_5),(54,.slice A_s s_3.length c_s),(55,.i k_5)] rfl {} ?_)
      obtain⟨A1_2,hA1_2⟩:∃ A0_,A0_=(if c_s=k_5.toNat then A_s else A_s.map (fun a=>a.add (k_5.toNat*6))):=⟨_,rfl⟩
      refine TL.val (sV (Instr.sliceAt 83 (.slice A_s s_3.length c_s) (some (.i k_5)) none none)) (some 56) (.slice A1_2 ((s_3.drop k_5.toNat).length) (c_s-k_5.toNat)) [(0,.slice A_s s_3.length c_s),(3,.i k_5),(56,.slice A1_2 ((s_3.drop k_5.toNat).length) (c_s-k_5.toNat))] (fun w hM=>(JE k_5.toNat s_3.length Kr (.inr ⟨_,_,rfl,(by have q0_:=(Zq h1);have q1_:=(Z1 h2);have kv0_:=hv0.1;have ko1_:=ho1.1;exact sd),rfl⟩) (.inl ⟨rfl,rfl⟩) (by have q0_:=(Zq h1);have q1_:=(Z1 h2);have kv0_:=hv0.1;have ko1_:=ho1.1;exact sd) (Nat.le_trans (Nat.le_refl _) (hM.le_at 0 rfl))).trans (by rw[hA1_2];have q0_:=(Zq h1);have q1_:=(Z1 h2);have kv0_:=hv0.1;have ko1_:=ho1.1;congr 3;simp only[List.length_drop])) Kr Kr ?_
      obtain⟨s_4,hclr⟩:∃ x_,x_=(s_3.take k_5.toNat++List.replicate (s_3.length-k_5.toNat) Zm.zero):=⟨_,rfl⟩
      have hlclr:s_4.length=s_3.length:=by have k_:k_5.toNat≤s_3.length:=(by have q0_:=(Zq h1);have q1_:=(Z1 h2);have kv0_:=hv0.1;have ko1_:=ho1.1;exact sd);rw[hclr];simp only[List.length_append,List.length_take,List.length_replicate];omega
      refine TL.opM (Γ:=Unit) (sV (Builtin.clear_ #[83] 0 #[.slice A1_2 ((s_3.drop k_5.toNat).length) (c_s-k_5.toNat)])) none (fun _=>.tuple #[]) (fun _=>[Ow A_s c_s 89 6 (s_4.map Zm.c)]) (fun _=>[(0,.slice A_s s_3.length c_s),(3,.i k_5)]) (by rw[hclr];exact Gm (c:=Zm.c) (bytes:=48) (sz:=6) Zm.zero 0 k_5.toNat ((c_s-k_5.toNat)) ((s_3.drop k_5.toNat).length) 0 Kr Kr Zm.one rfl hA1_2 (by simp only[List.length_drop]) (by have q0_:=(Zq h1);have q1_:=(Z1 h2);have kv0_:=hv0.1;have ko1_:=ho1.1;exact sd)) Kr (fun _=>Kr) (fun _=>TL.rw 0 (.slice A_s s_3.length c_s) (.slice A_s s_4.length c_s) Kr (by rw[hlclr]) (TL.nr (TL.run 2 [] [(57,.slice A_s s_4.length c_s),(58,.i k_5)] rfl {} ?_)))
      obtain⟨A1_3,hA1_3⟩:∃ A0_,A0_=(if c_s=0 then A_s else A_s.map (fun a=>a.add (0*6))):=⟨_,rfl⟩
      refine TL.val (sV (Instr.sliceAt 83 (.slice A_s s_4.length c_s) none (some (.i k_5)) none)) (some 59) (.slice A1_3 ((s_4.take k_5.toNat).length) (c_s-0)) [(59,.slice A1_3 ((s_4.take k_5.toNat).length) (c_s-0))] (fun w hM=>(JE 0 k_5.toNat Kr (.inl ⟨rfl,rfl⟩) (.inr ⟨_,_,rfl,(by have q0_:=(Zq h1);have q1_:=(Z1 h2);have kv0_:=hv0.1;have ko1_:=ho1.1;exact sd),rfl⟩) (by have q0_:=(Zq h1);have q1_:=(Z1 h2);have kv0_:=hv0.1;have ko1_:=ho1.1;exact sd) (Nat.le_trans (by have q0_:=(Zq h1);have q1_:=(Z1 h2);have kv0_:=hv0.1;have ko1_:=ho1.1;exact sd) (hM.le_at 0 rfl))).trans (by rw[hA1_3];have q0_:=(Zq h1);have q1_:=(Z1 h2);have kv0_:=hv0.1;have ko1_:=ho1.1;congr 3;first|(simp only[List.length_take] <;> omega)|(simp only[List.length_take] at * <;> omega))) Kr Kr (TL.run 4 [] [(2,.slice A1_3 ((s_4.take k_5.toNat).length) (c_s-0))] rfl {} (TL.next rfl (TC.ret (TE.rb (TE.rt (TE.rt (TE.rb (TE.rt (TE.rt ?_)))))))))
      exact TE.conv [Ow A_s c_s 89 6 ((s_4.take k_5.toNat).map Zm.c)] (fun _ hM=>by have h_:=hM.takerow k_5.toNat 0 rfl (by simp only[List.length_map];exact(by have q0_:=(Zq h1);have q1_:=(Z1 h2);have kv0_:=hv0.1;have ko1_:=ho1.1;exact sg));rw[← List.map_take] at h_;exact h_) (TE.retM (.inl rfl) (s_4.take k_5.toNat) [] (.slice A1_3 ((s_4.take k_5.toNat).length) (c_s-0)) {} (by rw[hA1_3,O4];rfl) (fun _ hM=>(hM.sub (sb 1)).fact (by have q0_:=(Zq h1);have q1_:=(Z1 h2);have kv0_:=hv0.1;have ko1_:=ho1.1;(try dsimp only);first|exact Wj (by omega)|exact(by rw[hclr];exact(UX (by omega)).trans ho1.2)|exact ho0)))
    ·exact TC.skip (TE.nb (TE.next (TC.region (TL.run 3 [] [(0,.slice A_s s.length c_s),(3,.i (w64 (k_2+1)))] rfl {} (TL.rw 3 (.i (w64 (k_2+1))) (.i (k_2+1)) Kr (int_eq (by have q0_:=(Zq h1);have q1_:=(Z1 h2);have kv0_:=hv0.1;rw[Zn (x:=(k_2+1)) (by omega)])) (TL.done rfl (TE.again (x:=k_2) (k_2+1) (by have q0_:=(Zq h1);have q1_:=(Z1 h2);have kv0_:=hv0.1;first|exact⟨by omega,S8 hv0.2 (by omega) (by omega) (by first|assumption|exact Bq (by assumption)|exact Br (by assumption))⟩) (by have q0_:=(Zq h1);have q1_:=(Z1 h2);have kv0_:=hv0.1;(try dsimp only);omega) Kr (sb 1))))))))
   ·refine TC.exit (TE.et (TE.et (TE.exit_same ?_)))
    exact TE.cut () (by have q0_:=(Zq h1);have q1_:=(Zq h2);have kv0_:=hv0.1;first|exact PY hv0.2 (by omega)) Kr (sb 1)
  ·intro _ ho0
   exact TE.nr (TL.run 2 [] [(2,.slice A_s s.length c_s)] rfl {} (TL.next rfl (TC.ret (TE.retM (.inl rfl) s [] (.slice A_s s.length c_s) {} rfl (fun _ hM=>(hM.sub (sb 1)).fact (by have q0_:=(Zq h1);(try dsimp only);first|exact Wj (by omega)|exact(by rw[hclr];exact(UX (by omega)).trans ho1.2)|exact ho0))))))
def Qk (x:List Zm):List Zm→Nat→((Unit) ⊕ ((List Zm)×Int))
 | [],_=>.inl ()
 | x_2::xs,k_2=>let r1:=ZM x_2
  cond (r1 != 0) (
   .inr ([],r1)) (
   cond (decide ((k_2:Int)>0)) (
    cond (decide (x_2.Time<((x[(k_2-1)]?.getD Zm.zero).Time))) (
     .inr ([],12)) (
     Qk x xs (k_2+1))) (
    Qk x xs (k_2+1)))
def Ql:List (List Zm)→Nat→(List Zm)→((List Zm) ⊕ ((List Zm)×Int))
 | [],_,out=>.inl out
 | x::xs,k,out=>cond (decide ((x.length:Int)>256)) (
   .inr ([],2)) (
   Sum.elim (fun _ =>
    Ql xs (k+1) (out++x)) (fun r=>.inr r) (Qk x x 0))
def Y5 (feeds:List (List Zm)):List Zm×Int :=
 cond (decide ((feeds.length:Int)>4)) (
  ([],2)) (
  Sum.elim (fun out_2 =>
   let r2:=UG out_2
   let r3:=cpt Zm.eqb r2
   (r3,0)) (fun r=>r) (Ql feeds 0 ([]:List Zm)))
set_option maxHeartbeats 4000000 in
set_option maxRecDepth 100000 in
theorem HS (A_feeds:Option Addr) (c_feeds:Nat) (feeds:List (List Zm)) (o_feeds:List (Sl Zm)) (w:World) (h_feeds:Rd w 1 A_feeds (o_feeds.map Sl.c)) (_hc_feeds:feeds.length≤c_feeds) (hd_feeds:∀ s∈o_feeds,s.rd w 6 Zm.c) (he_feeds:feeds=o_feeds.map Sl.l):Calls Tryz.prog 49 #[.slice A_feeds feeds.length c_feeds] w (QW (Γ:=(Option Addr×Nat)) (cx w) (fun g=>.tuple #[.slice g.1 ((Y5 feeds).1.length) g.2,.int .i64 ((Y5 feeds).2)]) (fun g=>[.inr (Own g.1 g.2 89 6 (((Y5 feeds).1).map Zm.c))])):=by
 have s_feeds:=h_feeds.short;rw[← JJ he_feeds] at s_feeds
 refine Zk (vs:=[.slice A_feeds feeds.length c_feeds]) (w:=w) Tryz.func49 rfl Tryz.ntmps49 rfl (TC.sr (TL.r 2 [] [(2,.slice none 0 0),(3,.i 0)] {} (TL.ns (TC.sr (TL.r 3 [] [(12,.b (decide ((feeds.length:Int)>4)))] {} (TL.next rfl (TC.cond (decide ((feeds.length:Int)>4)) rfl Kr (fun h1=>?_) (fun h1=>?_))))))))
 ·refine TC.sr (TL.r 2 [] [(2,.slice none 0 0),(3,.i 2)] {} (TL.next rfl (TC.ret (TE.rt ?_))))
  have e:Y5 feeds=([],2):=by unfold Y5;exact Zj h1 (rfl)
  refine TE.conv [Ow none 0 89 6 (([]:List Zm).map Zm.c)] (fun _ hM=>hM.emptyrow none 89 6) ?_
  rw[e]
  exact TE.retM (.inl rfl) (none,0) [] (.tuple #[.slice none 0 0,.i 2]) {} rfl (fun _ hM=>hM.sub (sb 1))
 ·have q1_0:=(Zq h1)
  refine TC.snr (TL.r 1 [] [(4,.slice none 0 0)] {} (TL.ns (TC.sr (TL.r 3 [] [(13,.slice A_feeds feeds.length c_feeds),(14,.i (feeds.length:Int)),(15,.i 0)] {} (TL.next rfl (TC.conv [Ow none 0 89 6 (([]:List Zm).map Zm.c)] (fun _ hM=>hM.emptyrow none 89 6) ?_))))))
  obtain⟨R3,hR⟩:∃ R,R=Ql feeds 0 ([]:List Zm):=⟨_,rfl⟩
  refine TC.cut (S:=(List Zm)×(Option Addr)×Nat) (fun (out_2,A_out_2,c_out_2)=>[(4,.slice A_out_2 out_2.length c_out_2)]) (fun (out_2,A_out_2,c_out_2)=>[Ow A_out_2 c_out_2 89 6 (out_2.map Zm.c)]) (fun (out_2,A_out_2,c_out_2)=>R3=.inl out_2∧out_2.length≤256*feeds.length) ?_ ?_
  ·refine TC.block (TC.lw (X:=Nat×(List Zm)×(Option Addr)×Nat) (fun (k,out,A_out,c_out)=>[(4,.slice A_out out.length c_out),(13,.slice A_feeds feeds.length c_feeds),(14,.i (feeds.length:Int)),(15,.i (k:Int))]) (fun (k,out,A_out,c_out)=>[Ow A_out c_out 89 6 (out.map Zm.c)]) (fun (k,out,A_out,c_out)=>feeds.length-k) (fun (k,out,A_out,c_out)=>k≤feeds.length∧R3=Ql (feeds.drop k) k out∧out.length≤256*k) ?_ (0,([]:List Zm),none,0) ⟨Nat.zero_le _,hR,sz⟩ Kr (sb 1))
   rintro⟨k,out,A_out,c_out⟩ ⟨hk,hI,hl_out⟩
   refine TC.sr (TL.r 1 [] [(16,.b (decide ((k:Int)<(feeds.length:Int))))] {} (TL.ns (TC.cond (decide ((k:Int)<(feeds.length:Int))) rfl Kr (fun h2=>?_) (fun h2=>?_))))
   ·have hlt:=ltN h2
    obtain⟨x,hx⟩:=elN hlt
    have hd:=drop_at hx
    refine TC.sn (TC.seq (TC.block (TC.sr (TL.v (sV (Instr.indexAt 128 (.slice A_feeds feeds.length c_feeds) (.i (k:Int)))) 17 (.pointer (some (Ix A_feeds (k*1)))) (fun w hM=>Zp (h_feeds.sat hM) (JJ he_feeds) Kr sd sd) {} ?_))))
    have s_s1:=(J2 (QG hd_feeds k) (KJ he_feeds hx)).short;rw[List.length_map] at s_s1
    refine TL.v (sV (Instr.loadAt 83 (.pointer (some (Ix A_feeds (k*1)))))) 18 (.slice ((o_feeds[k]?.getD Sl.zero).A) x.length ((o_feeds[k]?.getD Sl.zero).cap)) (fun w hM=>(by have h:=Zs (P:=Tryz.prog) (T:=83) (off:=0) (i:=k) (.slice (o_feeds[k]?.getD Sl.zero).A (o_feeds[k]?.getD Sl.zero).l.length (o_feeds[k]?.getD Sl.zero).cap) (h_feeds.sat hM) (Z8 (getD_at _ _ Sl.zero (Wn he_feeds (List.getElem?_eq_some_iff.1 hx).1))) Kr Kr;rw[(KJ he_feeds hx)] at h;exact h)) {} ?_
    refine TL.r 3 [] [(6,.slice ((o_feeds[k]?.getD Sl.zero).A) x.length ((o_feeds[k]?.getD Sl.zero).cap))] {} (TL.ns (TC.sr (TL.r 3 [] [(21,.b (decide ((x.length:Int)>256)))] {} (TL.next rfl (TC.cond (decide ((x.length:Int)>256)) rfl Kr (fun h3=>?_) (fun h3=>?_))))))
    ·refine TC.sr (TL.r 2 [] [(2,.slice none 0 0),(3,.i 2)] {} (TL.next rfl (TC.ret (TE.rt (TE.rb (TE.rt (TE.rt (TE.rb (TE.rt (TE.rt ?_))))))))))
     have e:Y5 feeds=([],2):=by unfold Y5;exact Zb h1 (X3 (hR.symm.trans (hI.trans (by rw[hd];exact Zj h3 (rfl)))) rfl)
     refine TE.conv [Ow none 0 89 6 (([]:List Zm).map Zm.c),Ow A_out c_out 89 6 (out.map Zm.c)] (fun _ hM=>hM.emptyrow none 89 6) ?_
     rw[e]
     exact TE.retM (.inl rfl) (none,0) [] (.tuple #[.slice none 0 0,.i 2]) {} rfl (fun _ hM=>hM.sub (sb 1))
    ·have q3_0:=(Zq h3)
     refine TC.sn (TC.seq (TC.sr (TL.r 3 [] [(22,.slice ((o_feeds[k]?.getD Sl.zero).A) x.length ((o_feeds[k]?.getD Sl.zero).cap)),(23,.i (x.length:Int)),(24,.i 0)] {} (TL.next rfl ?_))))
     obtain⟨R5,hR_2⟩:∃ R,R=Qk x x 0:=⟨_,rfl⟩
     refine TC.cut (S:=Unit) (fun (_:Unit)=>[(4,.slice A_out out.length c_out),(6,.slice ((o_feeds[k]?.getD Sl.zero).A) x.length ((o_feeds[k]?.getD Sl.zero).cap)),(13,.slice A_feeds feeds.length c_feeds),(14,.i (feeds.length:Int)),(15,.i (k:Int))]) (fun (_:Unit)=>[Ow A_out c_out 89 6 (out.map Zm.c)]) (fun (_:Unit)=>R5=.inl ()) ?_ ?_
     ·refine TC.block (TC.lw (X:=Nat) (fun k_2=>[(4,.slice A_out out.length c_out),(6,.slice ((o_feeds[k]?.getD Sl.zero).A) x.length ((o_feeds[k]?.getD Sl.zero).cap)),(13,.slice A_feeds feeds.length c_feeds),(14,.i (feeds.length:Int)),(15,.i (k:Int)),(22,.slice ((o_feeds[k]?.getD Sl.zero).A) x.length ((o_feeds[k]?.getD Sl.zero).cap)),(23,.i (x.length:Int)),(24,.i (k_2:Int))]) (fun k_2=>[Ow A_out c_out 89 6 (out.map Zm.c)]) (fun k_2=>x.length-k_2) (fun k_2=>k_2≤x.length∧R5=Qk x (x.drop k_2) k_2) ?_ 0 ⟨Nat.zero_le _,hR_2⟩ Kr (sb 1))
      rintro k_2 ⟨hk_2,hI_2⟩
      refine TC.sr (TL.r 1 [] [(25,.b (decide ((k_2:Int)<(x.length:Int))))] {} (TL.ns (TC.cond (decide ((k_2:Int)<(x.length:Int))) rfl Kr (fun h4=>?_) (fun h4=>?_))))
      ·have hlt_2:=ltN h4
       obtain⟨x_2,hx_2⟩:=elN hlt_2
       have hd_2:=drop_at hx_2
       refine TC.sn (TC.seq (TC.block (TC.sr (TL.r 1 [] [(26,.i (k_2:Int))] {} (TL.v (sV (Instr.indexAt 83 (.slice ((o_feeds[k]?.getD Sl.zero).A) x.length ((o_feeds[k]?.getD Sl.zero).cap)) (.i (k_2:Int)))) 27 (.pointer (some ((((o_feeds[k]?.getD Sl.zero).A).getD Yc).add (k_2*6)))) (fun w hM=>Zp (J2 ((QG hd_feeds k).sat hM) (KJ he_feeds hx)) (by simp) Kr sd sd) {} (TL.v (sV (Instr.loadAt 89 (.pointer (some ((((o_feeds[k]?.getD Sl.zero).A).getD Yc).add (k_2*6)))))) 28 (Zm.v x_2) (fun w hM=>Z6 (n:=6) (off:=0) (i:=k_2) (Zm.v x_2) (J2 ((QG hd_feeds k).sat hM) (KJ he_feeds hx)) (Z8 hx_2) Kr Kr Kr) {} (TL.nw 8 (fun b1=>.p0 b1) (fun b1=>Bk b1 (Zm.c Zm.zero) 89) (fun b1=>{}) (fun b1=>TL.r 5 [] [(7,.i (k_2:Int))] {} (TL.s 0 (Bk b1 (Zm.c x_2) 89) (fun _=>{}) (TL.ns (TC.sr (TL.r 1 [0] [(29,Zm.v x_2)] {} (TL.c 30 (ZM x_2) (fun r1=>.i r1) (fun w _=>JQ x_2 w) {} (fun r1 hr1=>TL.r 3 [] [(9,.i r1)] {} (TL.nr (TL.r 2 [] [(32,.b (r1 != 0))] {} (TL.next rfl (TC.cond (r1 != 0) rfl Kr (fun h5=>?_) (fun h5=>?_)))))))))))))))))))
       ·refine TC.sr (TL.r 3 [] [(2,.slice none 0 0),(3,.i r1)] {} (TL.next rfl (TC.ret (TE.rt (TE.rb (TE.rt (TE.rt (TE.rb (TE.rt (TE.rt (TE.rb (TE.rt (TE.rt (TE.rb (TE.rt (TE.rt ?_))))))))))))))))
        have e:Y5 feeds=([],r1):=by subst hr1;unfold Y5;exact Zb h1 (X3 (hR.symm.trans (hI.trans (by rw[hd];exact Zb h3 (X3 (hR_2.symm.trans (hI_2.trans (by rw[hd_2];exact Zj h5 (rfl)))) rfl)))) rfl)
        refine TE.conv [Ow none 0 89 6 (([]:List Zm).map Zm.c),Bk b1 (Zm.c x_2) 89,Ow A_out c_out 89 6 (out.map Zm.c)] (fun _ hM=>hM.emptyrow none 89 6) ?_
        rw[e]
        exact TE.retM (.inl rfl) (none,0) [] (.tuple #[.slice none 0 0,.i r1]) {} rfl (fun _ hM=>hM.sub (sb 1))
       ·have q5_0:=(QQ h5)
        refine TC.sn (TC.seq (TC.draw 13 Kr Kr Kr (TQ.r 3 [] [(36,.b (decide ((k_2:Int)>0)))] {} (TQ.split 36 (decide ((k_2:Int)>0)) Kr (fun h6=>?_) (fun h6=>?_)))))
        ·have q6_0:=(Z1 h6)
         refine TQ.r 8 [0] [(38,.i x_2.Time),(39,.slice ((o_feeds[k]?.getD Sl.zero).A) x.length ((o_feeds[k]?.getD Sl.zero).cap)),(41,.i (w64 ((k_2:Int)-1)))] {} (TQ.rw 41 (.i (w64 ((k_2:Int)-1))) (.i ((k_2-1:Nat):Int)) Kr (C3 k_2 sd) (TQ.v (sV (Instr.indexAt 83 (.slice ((o_feeds[k]?.getD Sl.zero).A) x.length ((o_feeds[k]?.getD Sl.zero).cap)) (.i ((k_2-1:Nat):Int)))) 42 (.pointer (some ((((o_feeds[k]?.getD Sl.zero).A).getD Yc).add ((k_2-1)*6)))) (fun w hM=>Zp (J2 ((QG hd_feeds k).sat hM) (KJ he_feeds hx)) (by simp) Kr sd sd) rfl {} (TQ.r 10 [] [(43,.pointer (some (((((o_feeds[k]?.getD Sl.zero).A).getD Yc).add ((k_2-1)*6)).add 1)))] {} (TQ.v (sV (Instr.loadAt 3 (.pointer (some (((((o_feeds[k]?.getD Sl.zero).A).getD Yc).add ((k_2-1)*6)).add 1))))) 44 (.i ((x[(k_2-1)]?.getD Zm.zero).Time)) (fun w hM=>Zs (off:=1) (i:=(k_2-1)) (.i ((x[(k_2-1)]?.getD Zm.zero).Time)) (J2 ((QG hd_feeds k).sat hM) (KJ he_feeds hx)) (Z8 (getD_at _ _ Zm.zero sd)) Kr Kr) rfl {} (TQ.r 13 [] [(46,.b (decide (x_2.Time<((x[(k_2-1)]?.getD Zm.zero).Time))))] {} (TQ.next rfl (TC.cond (decide (x_2.Time<((x[(k_2-1)]?.getD Zm.zero).Time))) rfl Kr (fun h7=>?_) (fun h7=>?_))))))))
         ·refine TC.sr (TL.r 2 [] [(2,.slice none 0 0),(3,.i 12)] {} (TL.next rfl (TC.ret (TE.rb (TE.rt (TE.rt (TE.rb (TE.rt (TE.rt (TE.rb (TE.rt (TE.rt (TE.rb (TE.rt (TE.rt ?_)))))))))))))))
          have e:Y5 feeds=([],12):=by subst hr1;unfold Y5;exact Zb h1 (X3 (hR.symm.trans (hI.trans (by rw[hd];exact Zb h3 (X3 (hR_2.symm.trans (hI_2.trans (by rw[hd_2];exact Zb h5 (Zj h6 (Zj h7 (rfl)))))) rfl)))) rfl)
          refine TE.conv [Ow none 0 89 6 (([]:List Zm).map Zm.c),Bk b1 (Zm.c x_2) 89,Ow A_out c_out 89 6 (out.map Zm.c)] (fun _ hM=>hM.emptyrow none 89 6) ?_
          rw[e]
          exact TE.retM (.inl rfl) (none,0) [] (.tuple #[.slice none 0 0,.i 12]) {} rfl (fun _ hM=>hM.sub (sb 1))
         ·have q7_0:=(Zq h7)
          exact TC.skip (TE.nb (TE.next (TC.region (TL.r 2 [] [(24,.i (w64 ((k_2:Int)+1)))] {} (TL.done rfl (TE.rw 24 (.i (w64 ((k_2:Int)+1))) (.i ((k_2+1:Nat):Int)) Kr (ZF k_2 (by omega)) (TE.again (x:=k_2) (k_2+1) ⟨by omega,hI_2.trans (by subst hr1;rw[hd_2];exact Zb h5 (Zj h6 (Zb h7 (rfl))))⟩ (mN hlt_2) Kr (sb 2))))))))
        ·have q6_0:=(Zq h6)
         exact TQ.r 13 [] [(46,.b false)] {} (TQ.next rfl (TC.condF rfl Kr (TC.skip (TE.nb (TE.next (TC.region (TL.r 2 [] [(24,.i (w64 ((k_2:Int)+1)))] {} (TL.done rfl (TE.rw 24 (.i (w64 ((k_2:Int)+1))) (.i ((k_2+1:Nat):Int)) Kr (ZF k_2 (by omega)) (TE.again (x:=k_2) (k_2+1) ⟨by omega,hI_2.trans (by subst hr1;rw[hd_2];exact Zb h5 (Zb h6 (rfl)))⟩ (mN hlt_2) Kr (sb 2)))))))))))
      ·have hd_2:=Qc h4
       refine TC.exit (TE.et (TE.et (TE.exit_same ?_)))
       exact TE.cut () (hI_2.trans (by rw[hd_2];exact rfl)) Kr (sb 1)
     ·intro _ hJ_2
      refine TE.next (TC.region (TL.r 2 [] [(48,.slice A_out out.length c_out),(49,.slice ((o_feeds[k]?.getD Sl.zero).A) x.length ((o_feeds[k]?.getD Sl.zero).cap))] {} (TL.os (Γ:=AN) (sV (Builtin.append_ #[83,83] 83 #[.slice A_out out.length c_out,.slice ((o_feeds[k]?.getD Sl.zero).A) x.length ((o_feeds[k]?.getD Sl.zero).cap)])) 50 (fun g=>.slice g.1 (out++x).length g.2) 0 (fun g=>Ow g.1 g.2 89 6 ((out++x).map Zm.c)) (Qx (bytes:=48) 83 0 x Kr rfl rfl Zm.one rfl (fun w hM=>(J2 ((QG hd_feeds k).sat hM) (KJ he_feeds hx))) rfl sa) {} ?_)))
      rintro⟨A,c⟩
      exact TL.r 4 [] [(4,.slice A ((out++x).length) c)] {} (TL.done rfl (TE.nb (TE.next (TC.region (TL.r 2 [] [(15,.i (w64 ((k:Int)+1)))] {} (TL.done rfl (TE.rw 15 (.i (w64 ((k:Int)+1))) (.i ((k+1:Nat):Int)) Kr (ZF k (by omega)) (TE.again (x:=(k,out,A_out,c_out)) (k+1,(out++x),A,c) ⟨by omega,hI.trans (by rw[hd];exact Zb h3 (Xk (hR_2.symm.trans hJ_2) (rfl))),sl⟩ (mN hlt) Kr (sb 1)))))))))
   ·have hd:=Qc h2
    refine TC.exit (TE.et (TE.et (TE.exit_same ?_)))
    exact TE.cut (out,A_out,c_out) (⟨hI.trans (by rw[hd];exact rfl),sl⟩) Kr (sb 1)
  ·rintro⟨out_2,A_out_2,c_out_2⟩ ⟨hJ,hl_out_2⟩
   refine TE.nr (TL.r 1 [] [(52,.slice A_out_2 out_2.length c_out_2)] {} (TL.callM (Γ:=(List Zm)) (fun _=>.tuple #[]) (fun g=>[.inr (XF (g.length=out_2.length∧g=UG out_2)),Ow A_out_2 c_out_2 89 6 (g.map Zm.c)]) [Ow A_out_2 c_out_2 89 6 (out_2.map Zm.c)] [] (some 53) (fun _=>[(4,.slice A_out_2 out_2.length c_out_2)]) (fun w hM=>SB A_out_2 c_out_2 out_2 w hM.pass) Kr (fun g=>Kr) ?_))
   rintro r2
   refine TL.conv [.inr (XF (r2.length=out_2.length∧r2=UG out_2)),Ow A_out_2 c_out_2 89 6 (r2.map Zm.c)] (fun _ hM=>hM) (TL.know (fun w hM=>hM.fact_at 0 rfl) (fun hp_sortPl=>TL.forget [Ow A_out_2 c_out_2 89 6 (r2.map Zm.c)] (.cons _ (List.Sublist.refl _)) ?_))
   have hl_r2:r2.length=out_2.length:=hp_sortPl.1
   refine TL.rw 4 (.slice A_out_2 out_2.length c_out_2) (.slice A_out_2 r2.length c_out_2) Kr (by rw[hl_r2]) ?_
   have hr2:UG out_2=r2:=(hp_sortPl.2).symm
   refine TL.nr (TL.r 1 [] [(54,.slice A_out_2 r2.length c_out_2)] {} (TL.callM (Γ:=(List Zm)) (fun g=>.slice A_out_2 g.length c_out_2) (fun g=>[.inr (XF (g=cpt Zm.eqb r2)),Ow A_out_2 c_out_2 89 6 (g.map Zm.c)]) [Ow A_out_2 c_out_2 89 6 (r2.map Zm.c)] [] (some 55) (fun g=>[(55,.slice A_out_2 g.length c_out_2)]) (fun w hM=>Oa A_out_2 c_out_2 r2 w hM.pass) Kr (fun g=>Kr) ?_))
   rintro r3
   refine TL.conv [.inr (XF (r3=cpt Zm.eqb r2)),Ow A_out_2 c_out_2 89 6 (r3.map Zm.c)] (fun _ hM=>hM) (TL.know (fun w hM=>hM.fact_at 0 rfl) (fun hp_cmpct=>TL.forget [Ow A_out_2 c_out_2 89 6 (r3.map Zm.c)] (.cons _ (List.Sublist.refl _)) ?_))
   have hr3:cpt Zm.eqb r2=r3:=(hp_cmpct).symm
   refine TL.r 4 [] [(2,.slice A_out_2 r3.length c_out_2),(3,.i 0)] {} (TL.next rfl (TC.ret ?_))
   have e:Y5 feeds=(r3,0):=by subst hr2 hr3;unfold Y5;exact Zb h1 (Xk (hR.symm.trans hJ) (rfl))
   rw[e]
   exact TE.retM (.inl rfl) (A_out_2,c_out_2) [] (.tuple #[.slice A_out_2 r3.length c_out_2,.i 0]) {} rfl (fun _ hM=>hM.sub (sb 1))
end Go.Sky
end
