/- Lemmas toward the given statement (part 4 of 20): Crs Trk Wd PlanB Tb. Each theorem states its own conditions; nothing is assumed beyond them. -/
import Derived.Test.YtjggkpkehdnhiaaGreatDoorBx03
import Derived.Test.YtjggkpkehdnhiaaGreatDoorBx02
section
namespace Go.Sky
open Go Go.Eng Go.Glue
def grow (slack acc d:Int):Int:=-(-(slack*d)/16) + -(-(acc*d*d)/2)+2
def Yo (f:Za) (t acc:Int):Za :=
 ⟨⟨f.Track.ID,f.Track.State,t,⟨f.Track.At.X+f.Track.Speed.X*(t-f.Track.Time)/16,f.Track.At.Y+f.Track.Speed.Y*(t-f.Track.Time)/16⟩,f.Track.Speed,
  Xs (f.Track.Height+f.Track.Rate*(t-f.Track.Time)/16) 0 60000,f.Track.Rate,f.Track.Radius+grow f.Slack acc (t-f.Track.Time),f.Track.Code,f.Track.Hits,f.Track.Misses⟩,
  f.Slack+16*acc*(t-f.Track.Time),f.Last⟩
theorem LD {a b A B:Int} (ha:-A≤a∧a≤A) (hb:0≤b∧b≤B):-(A*B)≤a*b∧a*b≤A*B:=by
 have hA:0≤A:=by omega
 have h1:a*b≤A*b:=Int.mul_le_mul_of_nonneg_right ha.2 hb.1
 have h2:-A*b≤a*b:=Int.mul_le_mul_of_nonneg_right ha.1 hb.1
 have h3:A*b≤A*B:=Int.mul_le_mul_of_nonneg_left hb.2 hA
 rw[Int.neg_mul] at h2
 omega
theorem JA {a b A B:Int} (ha:0≤a∧a≤A) (hb:0≤b∧b≤B):0≤a*b∧a*b≤A*B :=
 ⟨Int.mul_nonneg ha.1 hb.1,Int.mul_le_mul ha.2 hb.2 hb.1 (by omega)⟩
theorem Df {slack acc d:Int} (hs:0≤slack∧slack≤409600) (ha:0≤acc∧acc≤20) (hd:0≤d∧d≤600):2≤grow slack acc d∧grow slack acc d≤20000000:=by
 have h1:=JA hs hd
 have h2:=JA (JA ha hd) hd
 unfold grow
 omega
theorem CN {slack acc d:Int} (hs:0≤slack∧slack≤409600) (ha:0≤acc∧acc≤20) (hd:1≤d∧d≤600):Qy slack acc d=(grow slack acc d,0):=by
 have hd0:0≤d∧d≤600:=by omega
 have h1:=JA hs hd0
 have h2:=JA ha hd0
 have h3:=JA h2 hd0
 have hg:=Df hs ha hd0
 unfold Qy
 have e1:((((decide (slack<0))||(decide (slack>409600)))||(decide (acc<0)))||(decide (acc>20)))=false:=by simp;omega
 have e2:((decide (d<0))||(decide (d>600)))=false:=by simp;omega
 have e3:(d==0)=false:=by simp;omega
 simp only[e1,e2,e3,cond_false]
 rw[Zn (x:=slack*d) (by omega),Zn (x:=acc*d) (by omega),Zn (x:=acc*d*d) (by omega),KL (by decide) (by omega),KL (by decide) (by omega)]
 unfold grow at hg ⊢
 simp only
 rw[Zn (x:=-(-(slack*d)/16) + -(-(acc*d*d)/2)) (by omega),Zn (by omega)]
theorem Dh {f:Za} {a:Int} (hf:f.In) (ha:0≤a∧a≤20):Zo f f.Track.Time a=(f,0):=by
 have ht:=hf.1.1
 unfold Zo
 simp only[YN,JW,decide_eq_true_eq]
 rw[if_neg (by simp[XO.2 hf]),if_neg (fun hh=>hh ht),if_neg (fun hh=>hh ha),Int.sub_self,show w64 0=0 by decide,if_neg (by decide),if_pos (by decide)]
theorem NZ {f:Za} {t a:Int} (hf:f.In) (ht:0≤t∧t≤200000) (ha:0≤a∧a≤20) (hd:1≤t-f.Track.Time∧t-f.Track.Time≤600) :
  ((Zo f t a).2=0∧(Zo f t a).1=Yo f t a∧(Yo f t a).In)∨((Zo f t a).2=8∧¬ (Yo f t a).In):=by
 have hd0:0≤t-f.Track.Time∧t-f.Track.Time≤600:=by omega
 have htt:=hf.1.1
 have hx:=hf.1.2.1
 have s1:=LD hf.2.1 hd0
 have s2:=LD hf.2.2.1 hd0
 have s3:=LD hf.2.2.2.1 hd0
 have s4:=JA ha hd0
 have hh:=hf.1.2.2.1
 have hr:=hf.1.2.2.2.2
 have hg:=Df hf.2.2.2.2.1 ha hd0
 have hsl:=hf.2.2.2.2.1
 unfold P.In at hx
 unfold Zo
 simp only[YN,JW,decide_eq_true_eq]
 rw[if_neg (by simp[XO.2 hf]),if_neg (fun hh=>hh ht),if_neg (fun hh=>hh ha),Zn (x:=t-f.Track.Time) (by omega),if_neg (fun hh=>hh hd0),if_neg (by simp;omega)]
 have k1:ZT (w64 (f.Track.Speed.X*(t-f.Track.Time))) 16=f.Track.Speed.X*(t-f.Track.Time)/16:=by
  unfold ZT;rw[Zn (by omega),Jq (by decide) (by omega)]
 have k2:ZT (w64 (f.Track.Speed.Y*(t-f.Track.Time))) 16=f.Track.Speed.Y*(t-f.Track.Time)/16:=by
  unfold ZT;rw[Zn (by omega),Jq (by decide) (by omega)]
 have k3:ZT (w64 (f.Track.Rate*(t-f.Track.Time))) 16=f.Track.Rate*(t-f.Track.Time)/16:=by
  unfold ZT;rw[Zn (by omega),Jq (by decide) (by omega)]
 have k4:Qv f.Track.At ⟨f.Track.Speed.X*(t-f.Track.Time)/16,f.Track.Speed.Y*(t-f.Track.Time)/16⟩=⟨f.Track.At.X+f.Track.Speed.X*(t-f.Track.Time)/16,f.Track.At.Y+f.Track.Speed.Y*(t-f.Track.Time)/16⟩:=by
  unfold Qv
  simp only
  rw[Zn (x:=f.Track.At.X+_) (by omega),Zn (x:=f.Track.At.Y+_) (by omega)]
 have k5:16*a*(t-f.Track.Time)=16*(a*(t-f.Track.Time)):=Int.mul_assoc ..
 rw[k1,k2,k3,k4,CN hf.2.2.2.2.1 ha hd]
 simp only
 rw[Zn (x:=f.Track.Height+_) (by omega),Zn (x:=f.Track.Radius+_) (by omega),Zn (x:=16*a) (by omega),Zn (x:=16*a*_) (by omega),Zn (x:=f.Slack+_) (by omega)]
 have goal:∀ r:Za×Int,r=(if (Zu (Yo f t a) != 0)=true then (Za.zero,8) else (Yo f t a,0))→(r.2=0∧r.1=Yo f t a∧(Yo f t a).In)∨(r.2=8∧¬ (Yo f t a).In):=by
  rintro r rfl
  rcases FK (Yo f t a) with ⟨c1,c2⟩|⟨c1,c2⟩
  ·rw[if_neg (by simp[c1])]
   exact .inl ⟨rfl,rfl,c2⟩
  ·rw[if_pos (by simp;omega)]
   exact .inr ⟨rfl,c2⟩
 exact goal _ rfl
def Qb (x y R:Int):Prop:=0≤R∧x*x+y*y≤R*R
theorem Qb.add {x y R a b S:Int} (h:Qb x y R) (g:Qb a b S):Qb (x+a) (y+b) (R+S):=⟨by have:=h.1;have:=g.1;omega,CM h.1 g.1 h.2 g.2⟩
theorem Qb.mono {x y R S:Int} (h:Qb x y R) (hs:R≤S):Qb x y S:=⟨by have:=h.1;omega,by have:=Int.mul_le_mul hs hs h.1 (by have:=h.1;omega:(0:Int)≤S);have:=h.2;omega⟩
theorem Qb.scale {x y R k:Int} (h:Qb x y R) (hk:0≤k):Qb (k*x) (k*y) (k*R):=by
 refine⟨Int.mul_nonneg hk h.1,?_⟩
 have e1:k*x*(k*x)+k*y*(k*y)=k*k*(x*x+y*y):=by grind
 have e2:k*R*(k*R)=k*k*(R*R):=by grind
 rw[e1,e2]
 exact Int.mul_le_mul_of_nonneg_left h.2 (Int.mul_nonneg hk hk)
theorem Qb.unscale {x y R k:Int} (hk:0<k) (h:Qb (k*x) (k*y) (k*R)):Qb x y R:=by
 have h0:0≤R:=by
  rcases Int.lt_or_le R 0 with g|g
  ·have:=Int.mul_neg_of_pos_of_neg hk g
   have:=h.1
   omega
  ·exact g
 refine⟨h0,?_⟩
 have e1:k*x*(k*x)+k*y*(k*y)=k*k*(x*x+y*y):=by grind
 have e2:k*R*(k*R)=k*k*(R*R):=by grind
 have h2:=h.2
 rw[e1,e2] at h2
 exact Int.le_of_mul_le_mul_left h2 (Int.mul_pos hk hk)
theorem Qb.box {x y b R:Int} (hx:-b≤x∧x≤b) (hy:-b≤y∧y≤b) (hR:0≤R) (h:2*(b*b)≤R*R):Qb x y R:=⟨hR,by have:=JL hx;have:=JL hy;omega⟩
theorem Qb.neg {x y R:Int} (h:Qb x y R):Qb (-x) (-y) R:=⟨h.1,by rw[Int.neg_mul_neg,Int.neg_mul_neg];exact h.2⟩
theorem Qb.abs {x y R:Int} (h:Qb x y R):(-R≤x∧x≤R)∧(-R≤y∧y≤R):=by
 have nn:∀ z:Int,0≤z*z:=fun z=>by
  rcases Int.le_total 0 z with g|g
  ·exact Int.mul_nonneg g g
  ·rw[← Int.neg_mul_neg];exact Int.mul_nonneg (by omega) (by omega)
 have key:∀ z:Int,z*z≤R*R → -R≤z∧z≤R:=by
  intro z hz
  have h0:=h.1
  constructor
  ·rcases Int.lt_or_le z (-R) with g|g
   ·have:(R+1)*(R+1)≤(-z)*(-z):=Int.mul_le_mul (by omega) (by omega) (by omega) (by omega)
    rw[Int.neg_mul_neg] at this
    have e:(R+1)*(R+1)=R*R+2*R+1:=by grind
    omega
   ·exact g
  ·rcases Int.lt_or_le R z with g|g
   ·have:(R+1)*(R+1)≤z*z:=Int.mul_le_mul (by omega) (by omega) (by omega) (by omega)
    have e:(R+1)*(R+1)=R*R+2*R+1:=by grind
    omega
   ·exact g
 have n1:=nn x
 have n2:=nn y
 have h2:=h.2
 exact⟨key x (by omega),key y (by omega)⟩
structure Run (x v:Nat→P) (accel:Int) (K:Nat):Prop where
 acc:0≤accel∧accel≤1000
 vel:∀ k,k≤K→(-200≤(v k).X∧(v k).X≤200)∧(-200≤(v k).Y∧(v k).Y≤200)
 pos:∀ k,k≤K→(-112000≤(x k).X∧(x k).X≤112000)∧(-112000≤(x k).Y∧(x k).Y≤112000)
 step:∀ k,k<K→(x (k+1)).X=(x k).X+(v k).X∧(x (k+1)).Y=(x k).Y+(v k).Y
 turn:∀ k,k<K→Qb ((v (k+1)).X-(v k).X) ((v (k+1)).Y-(v k).Y) accel
theorem Run.veld {x v:Nat→P} {accel:Int} {K:Nat} (h:Run x v accel K) (t:Nat):∀ d:Nat,t+d≤K→Qb ((v (t+d)).X-(v t).X) ((v (t+d)).Y-(v t).Y) (accel*(d:Int))
 | 0,_=>by
  rw[Nat.add_zero,Int.sub_self,Int.sub_self]
  exact Qb.box (b:=0) (by omega) (by omega) (by simp) (by simp)
 | d+1,hd=>by
  have ih:=Run.veld h t d (by omega)
  have s:=ih.add (h.turn (t+d) (by omega))
  rw[show (v (t+d)).X-(v t).X+((v (t+d+1)).X-(v (t+d)).X)=(v (t+d+1)).X-(v t).X by omega,show (v (t+d)).Y-(v t).Y+((v (t+d+1)).Y-(v (t+d)).Y)=(v (t+d+1)).Y-(v t).Y by omega] at s
  rw[show t+(d+1)=t+d+1 by omega,show accel*((d+1:Nat):Int)=accel*(d:Int)+accel by rw[Int.natCast_succ,Int.mul_add,Int.mul_one]]
  exact s
theorem Run.ahead {x v:Nat→P} {accel:Int} {K:Nat} (h:Run x v accel K) (t:Nat):∀ d:Nat,t+d≤K →
  Qb (2*((x (t+d)).X-(x t).X-(d:Int)*(v t).X)) (2*((x (t+d)).Y-(x t).Y-(d:Int)*(v t).Y)) (accel*(d:Int)*((d:Int)-1))
 | 0,_=>by
  rw[Nat.add_zero]
  refine Qb.box (b:=0) (by simp) (by simp) (by simp) (by simp)
 | d+1,hd=>by
  have ih:=Run.ahead h t d (by omega)
  have s:=ih.add ((Run.veld h t d (by omega)).scale (k:=2) (by omega))
  obtain⟨e1,e2⟩:=h.step (t+d) (by omega)
  rw[show t+(d+1)=t+d+1 by omega,e1,e2]
  have f1:2*((x (t+d)).X-(x t).X-(d:Int)*(v t).X)+2*((v (t+d)).X-(v t).X)=2*((x (t+d)).X+(v (t+d)).X-(x t).X-((d+1:Nat):Int)*(v t).X):=by rw[Int.natCast_succ,Int.add_mul];omega
  have f2:2*((x (t+d)).Y-(x t).Y-(d:Int)*(v t).Y)+2*((v (t+d)).Y-(v t).Y)=2*((x (t+d)).Y+(v (t+d)).Y-(x t).Y-((d+1:Nat):Int)*(v t).Y):=by rw[Int.natCast_succ,Int.add_mul];omega
  have f3:accel*(d:Int)*((d:Int)-1)+2*(accel*(d:Int))=accel*((d+1:Nat):Int)*(((d+1:Nat):Int)-1):=by rw[Int.natCast_succ];grind
  rw[f1,f2,f3] at s
  exact s
theorem Run.behind {x v:Nat→P} {accel:Int} {K:Nat} (h:Run x v accel K) (t:Nat):∀ d:Nat,t+d≤K →
  Qb (2*((x (t+d)).X-(x t).X-(d:Int)*(v (t+d)).X)) (2*((x (t+d)).Y-(x t).Y-(d:Int)*(v (t+d)).Y)) (accel*(d:Int)*((d:Int)+1))
 | 0,_=>by
  rw[Nat.add_zero]
  refine Qb.box (b:=0) (by simp) (by simp) (by simp) (by simp)
 | d+1,hd=>by
  have ih:=Run.behind h t d (by omega)
  have s:=ih.add ((h.turn (t+d) (by omega)).neg.scale (k:=2*((d:Int)+1)) (by omega))
  obtain⟨e1,e2⟩:=h.step (t+d) (by omega)
  rw[show t+(d+1)=t+d+1 by omega,e1,e2]
  have f1:2*((x (t+d)).X-(x t).X-(d:Int)*(v (t+d)).X)+2*((d:Int)+1) * -((v (t+d+1)).X-(v (t+d)).X)=2*((x (t+d)).X+(v (t+d)).X-(x t).X-((d+1:Nat):Int)*(v (t+d+1)).X):=by rw[Int.natCast_succ];grind
  have f2:2*((x (t+d)).Y-(x t).Y-(d:Int)*(v (t+d)).Y)+2*((d:Int)+1) * -((v (t+d+1)).Y-(v (t+d)).Y)=2*((x (t+d)).Y+(v (t+d)).Y-(x t).Y-((d+1:Nat):Int)*(v (t+d+1)).Y):=by rw[Int.natCast_succ];grind
  have f3:accel*(d:Int)*((d:Int)+1)+2*((d:Int)+1)*accel=accel*((d+1:Nat):Int)*(((d+1:Nat):Int)+1):=by rw[Int.natCast_succ];grind
  rw[f1,f2,f3] at s
  exact s
def Knows (f:Za) (p v:P):Prop :=
 Qb (f.Track.At.X-p.X) (f.Track.At.Y-p.Y) f.Track.Radius∧Qb (f.Track.Speed.X-16*v.X) (f.Track.Speed.Y-16*v.Y) f.Slack
theorem Ba {x v:Nat→P} {accel:Int} {K:Nat} (h:Run x v accel K) {f:Za} {t d:Nat} (hk:Knows f (x t) (v t)) (ht:f.Track.Time=(t:Int)) (hd:t+d≤K) (hd1:1≤d) :
  Knows (Yo f ((t+d:Nat):Int) accel) (x (t+d)) (v (t+d)):=by
 have e0:((t+d:Nat):Int)-f.Track.Time=(d:Int):=by omega
 have ha:=h.acc
 obtain⟨k1,k2⟩:=hk
 have vd:=h.veld t d hd
 have xd:=h.ahead t d hd
 constructor
 ·unfold Yo
  simp only[e0]
  obtain⟨rx,hrx⟩:∃ r,r=f.Track.Speed.X*(d:Int)%16:=⟨_,rfl⟩
  obtain⟨ry,hry⟩:∃ r,r=f.Track.Speed.Y*(d:Int)%16:=⟨_,rfl⟩
  have brx:0≤rx∧rx≤15:=by omega
  have bry:0≤ry∧ry≤15:=by omega
  have b1:=k1.scale (k:=16) (by omega)
  have b2:=k2.scale (k:=(d:Int)) (by omega)
  have b3:Qb (-rx) (-ry) 32:=Qb.box (b:=15) (by omega) (by omega) (by omega) (by decide)
  have b4:=xd.neg.scale (k:=8) (by omega)
  have b:=((b1.add b2).add b3).add b4
  have q1:f.Track.Speed.X*(d:Int)=16*(f.Track.Speed.X*(d:Int)/16)+rx:=by omega
  have q2:f.Track.Speed.Y*(d:Int)=16*(f.Track.Speed.Y*(d:Int)/16)+ry:=by omega
  have g1:16*(f.Track.At.X-(x t).X)+(d:Int)*(f.Track.Speed.X-16*(v t).X) + -rx+8 * -(2*((x (t+d)).X-(x t).X-(d:Int)*(v t).X))=16*(f.Track.At.X+f.Track.Speed.X*(d:Int)/16-(x (t+d)).X):=by
   have e:(d:Int)*(f.Track.Speed.X-16*(v t).X)=f.Track.Speed.X*(d:Int)-16*((d:Int)*(v t).X):=by grind
   omega
  have g2:16*(f.Track.At.Y-(x t).Y)+(d:Int)*(f.Track.Speed.Y-16*(v t).Y) + -ry+8 * -(2*((x (t+d)).Y-(x t).Y-(d:Int)*(v t).Y))=16*(f.Track.At.Y+f.Track.Speed.Y*(d:Int)/16-(x (t+d)).Y):=by
   have e:(d:Int)*(f.Track.Speed.Y-16*(v t).Y)=f.Track.Speed.Y*(d:Int)-16*((d:Int)*(v t).Y):=by grind
   omega
  rw[g1,g2] at b
  refine Qb.unscale (k:=16) (by decide) (b.mono ?_)
  unfold grow
  have m1:0≤accel*(d:Int):=Int.mul_nonneg ha.1 (by omega)
  have m2:accel*(d:Int)*((d:Int)-1)=accel*(d:Int)*(d:Int)-accel*(d:Int):=by rw[Int.mul_sub,Int.mul_one]
  have m3:(d:Int)*f.Slack=f.Slack*(d:Int):=Int.mul_comm ..
  omega
 ·unfold Yo
  simp only[e0]
  have b:=k2.add (vd.neg.scale (k:=16) (by omega))
  have g1:f.Track.Speed.X-16*(v t).X+16 * -((v (t+d)).X-(v t).X)=f.Track.Speed.X-16*(v (t+d)).X:=by omega
  have g2:f.Track.Speed.Y-16*(v t).Y+16 * -((v (t+d)).Y-(v t).Y)=f.Track.Speed.Y-16*(v (t+d)).Y:=by omega
  rw[g1,g2,show f.Slack+16*(accel*(d:Int))=f.Slack+16*accel*(d:Int) by rw[Int.mul_assoc]] at b
  exact b
theorem FM {ax ay bx b_y x y g A B:Int} (hA:Qb (ax-x) (ay-y) A) (hB:Qb (bx-x) (b_y-y) B) (hg:0≤g∧g≤256) :
  Qb (ax+(bx-ax)*g/256-x) (ay+(b_y-ay)*g/256-y) (-(-((256-g)*A+g*B)/256)+2):=by
 obtain⟨rx,hrx⟩:∃ r,r=(bx-ax)*g%256:=⟨_,rfl⟩
 obtain⟨ry,hry⟩:∃ r,r=(b_y-ay)*g%256:=⟨_,rfl⟩
 have b3:Qb (-rx) (-ry) 512:=Qb.box (b:=255) (by omega) (by omega) (by omega) (by decide)
 have b:=((hA.scale (k:=256-g) (by omega)).add (hB.scale (k:=g) hg.1)).add b3
 have g1:(256-g)*(ax-x)+g*(bx-x) + -rx=256*(ax+(bx-ax)*g/256-x):=by
  have e:(256-g)*(ax-x)+g*(bx-x)=256*(ax-x)+(bx-ax)*g:=by grind
  omega
 have g2:(256-g)*(ay-y)+g*(b_y-y) + -ry=256*(ay+(b_y-ay)*g/256-y):=by
  have e:(256-g)*(ay-y)+g*(b_y-y)=256*(ay-y)+(b_y-ay)*g:=by grind
  omega
 rw[g1,g2] at b
 exact Qb.unscale (k:=256) (by decide) (b.mono (by omega))
theorem Rl {x v:Nat→P} {accel:Int} {K:Nat} (h:Run x v accel K) {t d:Nat} (hd:t+d≤K) (hd1:1≤d) {s l:P} {E L:Int} (hs:Qb (s.X-(x (t+d)).X) (s.Y-(x (t+d)).Y) E) (hl:Qb (l.X-(x t).X) (l.Y-(x t).Y) L) :
  Qb (16*(s.X-l.X)/(d:Int)-16*(v (t+d)).X) (16*(s.Y-l.Y)/(d:Int)-16*(v (t+d)).Y) (-(-(16*(E+L))/(d:Int))+16*accel*(d:Int)+2):=by
 have ha:=h.acc
 have hdp:(0:Int)<(d:Int):=by omega
 obtain⟨rx,hrx⟩:∃ r,r=16*(s.X-l.X)%(d:Int):=⟨_,rfl⟩
 obtain⟨ry,hry⟩:∃ r,r=16*(s.Y-l.Y)%(d:Int):=⟨_,rfl⟩
 have rx0:=Int.emod_nonneg (16*(s.X-l.X)) (show (d:Int)≠0 by omega)
 have rx1:=Int.emod_lt_of_pos (16*(s.X-l.X)) hdp
 have ry0:=Int.emod_nonneg (16*(s.Y-l.Y)) (show (d:Int)≠0 by omega)
 have ry1:=Int.emod_lt_of_pos (16*(s.Y-l.Y)) hdp
 have qx:=Int.mul_ediv_add_emod (16*(s.X-l.X)) (d:Int)
 have qy:=Int.mul_ediv_add_emod (16*(s.Y-l.Y)) (d:Int)
 rw[← hrx] at rx0 rx1 qx
 rw[← hry] at ry0 ry1 qy
 have dd:(2:Int)*((d:Int)*(d:Int))≤2*(d:Int)*(2*(d:Int)):=by
  have e:2*(d:Int)*(2*(d:Int))=4*((d:Int)*(d:Int)):=by grind
  have:=Int.mul_nonneg (show (0:Int)≤(d:Int) by omega) (show (0:Int)≤(d:Int) by omega)
  omega
 have b3:Qb (-rx) (-ry) (2*(d:Int)):=Qb.box (b:=(d:Int)) (by omega) (by omega) (by omega) dd
 have b:=(((hs.scale (k:=16) (by omega)).add (hl.neg.scale (k:=16) (by omega))).add ((h.behind t d hd).scale (k:=8) (by omega))).add b3
 have g1:16*(s.X-(x (t+d)).X)+16 * -(l.X-(x t).X)+8*(2*((x (t+d)).X-(x t).X-(d:Int)*(v (t+d)).X)) + -rx=(d:Int)*(16*(s.X-l.X)/(d:Int)-16*(v (t+d)).X):=by
  have e:(d:Int)*(16*(s.X-l.X)/(d:Int)-16*(v (t+d)).X)=(d:Int)*(16*(s.X-l.X)/(d:Int))-16*((d:Int)*(v (t+d)).X):=by grind
  omega
 have g2:16*(s.Y-(x (t+d)).Y)+16 * -(l.Y-(x t).Y)+8*(2*((x (t+d)).Y-(x t).Y-(d:Int)*(v (t+d)).Y)) + -ry=(d:Int)*(16*(s.Y-l.Y)/(d:Int)-16*(v (t+d)).Y):=by
  have e:(d:Int)*(16*(s.Y-l.Y)/(d:Int)-16*(v (t+d)).Y)=(d:Int)*(16*(s.Y-l.Y)/(d:Int))-16*((d:Int)*(v (t+d)).Y):=by grind
  omega
 rw[g1,g2] at b
 refine Qb.unscale hdp (b.mono ?_)
 have u:=Int.mul_ediv_add_emod (-(16*(E+L))) (d:Int)
 have u0:=Int.emod_nonneg (-(16*(E+L))) (show (d:Int)≠0 by omega)
 have e1:(d:Int)*(-(-(16*(E+L))/(d:Int))+16*accel*(d:Int)+2)=-((d:Int)*(-(16*(E+L))/(d:Int)))+16*(accel*(d:Int)*(d:Int))+2*(d:Int):=by grind
 have e2:accel*(d:Int)*((d:Int)+1)=accel*(d:Int)*(d:Int)+accel*(d:Int):=by rw[Int.mul_add,Int.mul_one]
 have m1:accel*(d:Int)*1≤accel*(d:Int)*(d:Int):=Int.mul_le_mul_of_nonneg_left (by omega) (Int.mul_nonneg ha.1 (by omega))
 rw[e1,e2]
 omega
theorem Di {a b g:Int} (ha:-10000000≤a∧a≤10000000) (hb:-10000000≤b∧b≤10000000) (hg:0≤g∧g≤256):Xo a b g=a+(b-a)*g/256:=by
 have m:=LD (a:=b-a) (A:=20000000) (by omega) hg
 unfold Xo ZT
 rw[Zn (x:=b-a) (by omega),Zn (x:=(b-a)*g) (by omega),Jq (by decide) (by omega)]
 show w64 (a+(b-a)*g/256)=_
 rw[Zn (by omega)]
theorem Ws {a b g lo hi:Int} (ha:lo≤a∧a≤hi) (hb:lo≤b∧b≤hi) (hg:0≤g∧g≤256):lo≤a+(b-a)*g/256∧a+(b-a)*g/256≤hi:=by
 have l1:(lo-a)*g≤(b-a)*g:=Int.mul_le_mul_of_nonneg_right (by omega) hg.1
 have l2:(lo-a)*256≤(lo-a)*g:=Int.mul_le_mul_of_nonpos_left (by omega) hg.2
 have u1:(b-a)*g≤(hi-a)*g:=Int.mul_le_mul_of_nonneg_right (by omega) hg.1
 have u2:(hi-a)*g≤(hi-a)*256:=Int.mul_le_mul_of_nonneg_left hg.2 (by omega)
 omega
theorem On {A B g M:Int} (hA:0≤A∧A≤M) (hB:0≤B∧B≤M) (hg:0≤g∧g≤256):(0≤(256-g)*A+g*B∧(256-g)*A+g*B≤256*M)∧0 ≤ -(-((256-g)*A+g*B)/256) ∧ -(-((256-g)*A+g*B)/256)≤M:=by
 have h1:0≤(256-g)*A:=Int.mul_nonneg (by omega) hA.1
 have h2:0≤g*B:=Int.mul_nonneg hg.1 hB.1
 have h3:(256-g)*A≤(256-g)*M:=Int.mul_le_mul_of_nonneg_left hA.2 (by omega)
 have h4:g*B≤g*M:=Int.mul_le_mul_of_nonneg_left hB.2 hg.1
 have h5:(256-g)*M+g*M=256*M:=by grind
 omega
theorem LE {slack acc d S A D:Int} (hs:0≤slack∧slack≤S) (ha:0≤acc∧acc≤A) (hd:0≤d∧d≤D):grow slack acc d≤(S*d+15)/16+(A*D*d+1)/2+2:=by
 have h1:slack*d≤S*d:=Int.mul_le_mul_of_nonneg_right hs.2 hd.1
 have h2:acc*d≤A*D:=(JA ha hd).2
 have h3:acc*d*d≤A*D*d:=Int.mul_le_mul_of_nonneg_right h2 hd.1
 unfold grow
 omega
def FN (f:Za) (s:Zg) (accel pl sp d:Int):Za :=
 let p:=Yo f s.Time accel
 ⟨⟨p.Track.ID,p.Track.State,s.Time,⟨p.Track.At.X+(s.At.X-p.Track.At.X)*pl/256,p.Track.At.Y+(s.At.Y-p.Track.At.Y)*pl/256⟩,
  ⟨p.Track.Speed.X+(16*(s.At.X-f.Last.At.X)/d-p.Track.Speed.X)*sp/256,p.Track.Speed.Y+(16*(s.At.Y-f.Last.At.Y)/d-p.Track.Speed.Y)*sp/256⟩,
  s.Height,0,-(-((256-pl)*p.Track.Radius+pl*s.Error)/256)+2,s.Code,p.Track.Hits+1,0⟩,
  -(-((256-sp)*p.Slack+sp*(-(-(16*(s.Error+f.Last.Error))/d)+16*accel*d+2))/256)+2,s⟩
theorem O3 {f:Za} {s:Zg} {accel pl sp d:Int} (hf:f.In) (hs:s.In) (hpl:0≤pl∧pl≤256) (hsp:0≤sp∧sp≤256) (hd:s.Time-f.Last.Time=d∧1≤d∧d≤600) (hacc:0≤accel∧accel≤20)
  (hp:(Zo f s.Time accel).2=0∧(Zo f s.Time accel).1=Yo f s.Time accel∧(Yo f s.Time accel).In)
  (hw:ZV (Yo f s.Time accel).Track.At s.At (w64 ((Yo f s.Time accel).Track.Radius+s.Error))=true)
  (hh:s.Height=f.Last.Height) (hc:s.Code ≠ -1) (hhits:f.Track.Hits≤1000000)
  (hseen:(-12800≤16*(s.At.X-f.Last.At.X)/d∧16*(s.At.X-f.Last.At.X)/d≤12800)∧(-12800≤16*(s.At.Y-f.Last.At.Y)/d∧16*(s.At.Y-f.Last.At.Y)/d≤12800))
  (hin:(FN f s accel pl sp d).In):ZL f s accel pl sp=(FN f s accel pl sp d,0):=by
 obtain⟨q1,q2,q3⟩:=hp
 have hla:=hf.2.2.2.2.2.2.2.1
 unfold ZL
 have c1:(Zu f != 0)=false:=by simp[XO.2 hf]
 have c2:(Zz s != 0)=false:=by simp[Qr.2 hs]
 have c3:ZX pl 0 256=false:=by rw[JW];simp;omega
 have c4:ZX sp 0 256=false:=by rw[JW];simp;omega
 have wd:w64 (s.Time-f.Last.Time)=d:=by rw[hd.1,Zn (by omega)]
 have c5:decide (d≤0)=false:=by simp;omega
 have c6:((Zo f s.Time accel).2 != 0)=false:=by simp[q1]
 have c8:(s.Code != -1)=true:=by simpa using hc
 simp only[c1,c2,c3,c4,wd,c5,c6,c8,cond_false,cond_true,q2,hw,Bool.not_true]
 obtain⟨p,hpe⟩:∃ p,p=Yo f s.Time accel:=⟨_,rfl⟩
 have hpt:p.Track.Time=s.Time:=by rw[hpe];rfl
 have hph:p.Track.Hits=f.Track.Hits:=by rw[hpe];rfl
 rw[← hpe] at q3 ⊢
 obtain⟨a1,a2,a3,a4⟩:=q3.1.2.1
 obtain⟨b1,b2,b3,b4⟩:=hs.2.1
 obtain⟨l1,l2,l3,l4⟩:=hla.2.1
 have hR:=q3.1.2.2.2.2
 have hE:=hs.2.2.2.2
 have hL:=hla.2.2.2.2
 have hS:=q3.2.2.2.2.1
 have hv1:=q3.2.1
 have hv2:=q3.2.2.1
 have hhi:=hs.2.2.1
 have m1:=JA (a:=256-pl) (b:=p.Track.Radius) (A:=256) (by omega) hR
 have m2:=JA hpl hE
 have m3:=JA (a:=256-sp) (b:=p.Slack) (A:=256) (by omega) hS
 have m4:=JA hacc (show 0≤d∧d≤600 by omega)
 have m5:16*accel*d=16*(accel*d):=Int.mul_assoc ..
 have zu:=Int.mul_ediv_add_emod (-(16*(s.Error+f.Last.Error))) d
 have zq:0 ≤ -(-(16*(s.Error+f.Last.Error))/d) ∧ -(-(16*(s.Error+f.Last.Error))/d)≤32000000:=by
  have q0:-(16*(s.Error+f.Last.Error))/d≤0:=by
   have:-(16*(s.Error+f.Last.Error))/d<1:=by rw[Int.ediv_lt_iff_lt_mul (by omega)];omega
   omega
  have q1:-32000000 ≤ -(16*(s.Error+f.Last.Error))/d:=by
   rw[Int.le_ediv_iff_mul_le (by omega)]
   have:-32000000*d ≤ -32000000*1:=Int.mul_le_mul_of_nonpos_left (by omega) (by omega)
   omega
  omega
 obtain⟨M,hM⟩:∃ M,M=-(-(16*(s.Error+f.Last.Error))/d)+16*accel*d+2:=⟨_,rfl⟩
 have hMb:0≤M∧M≤33000000:=by omega
 have m6:=JA hsp hMb
 have r7:Xo p.Track.At.X s.At.X pl=p.Track.At.X+(s.At.X-p.Track.At.X)*pl/256:=Di (by omega) (by omega) hpl
 have r8:Xo p.Track.At.Y s.At.Y pl=p.Track.At.Y+(s.At.Y-p.Track.At.Y)*pl/256:=Di (by omega) (by omega) hpl
 have r9:Qe (w64 (w64 (w64 (256-pl)*p.Track.Radius)+w64 (pl*s.Error))) 256=-(-((256-pl)*p.Track.Radius+pl*s.Error)/256):=by
  unfold Qe
  rw[Zn (x:=256-pl) (by omega),Zn (x:=(256-pl)*p.Track.Radius) (by omega),Zn (x:=pl*s.Error) (by omega),Zn (x:=_+_) (by omega),KL (by decide) (by omega)]
 have r10:ZT (w64 (16*w64 (s.At.X-f.Last.At.X))) d=16*(s.At.X-f.Last.At.X)/d:=by
  unfold ZT
  rw[Zn (x:=s.At.X-f.Last.At.X) (by omega),Zn (x:=16*_) (by omega),Jq (by omega) (by omega)]
 have r11:ZT (w64 (16*w64 (s.At.Y-f.Last.At.Y))) d=16*(s.At.Y-f.Last.At.Y)/d:=by
  unfold ZT
  rw[Zn (x:=s.At.Y-f.Last.At.Y) (by omega),Zn (x:=16*_) (by omega),Jq (by omega) (by omega)]
 have r12:Xo p.Track.Speed.X (16*(s.At.X-f.Last.At.X)/d) sp=p.Track.Speed.X+(16*(s.At.X-f.Last.At.X)/d-p.Track.Speed.X)*sp/256:=Di (by omega) (by omega) hsp
 have r13:Xo p.Track.Speed.Y (16*(s.At.Y-f.Last.At.Y)/d) sp=p.Track.Speed.Y+(16*(s.At.Y-f.Last.At.Y)/d-p.Track.Speed.Y)*sp/256:=Di (by omega) (by omega) hsp
 have r14:Qe (w64 (16*w64 (s.Error+f.Last.Error))) d=-(-(16*(s.Error+f.Last.Error))/d):=by
  unfold Qe
  rw[Zn (x:=s.Error+f.Last.Error) (by omega),Zn (x:=16*_) (by omega),KL (by omega) (by omega)]
 have rM:w64 (w64 (-(-(16*(s.Error+f.Last.Error))/d)+w64 (w64 (16*accel)*d))+2)=M:=by
  rw[Zn (x:=16*accel) (by omega),Zn (x:=16*accel*d) (by omega),Zn (x:=_+16*accel*d) (by omega),Zn (by omega),hM]
 have r15:Qe (w64 (w64 (w64 (256-sp)*p.Slack)+w64 (sp*M))) 256=-(-((256-sp)*p.Slack+sp*M)/256):=by
  unfold Qe
  rw[Zn (x:=256-sp) (by omega),Zn (x:=(256-sp)*p.Slack) (by omega),Zn (x:=sp*M) (by omega),Zn (x:=_+_) (by omega),KL (by decide) (by omega)]
 have r16:Xs (ZT (w64 (16*w64 (s.Height-f.Last.Height))) d) (-3200) 3200=0:=by
  rw[hh,Int.sub_self,show w64 (16*w64 0)=0 by decide]
  unfold ZT
  rw[Jq (by omega) (by omega)]
  show Xs (0/d) (-3200) 3200=0
  rw[Int.zero_ediv];decide
 simp only[r7,r8,r9,r10,r11,r12,r13,r14,rM,r15,r16]
 rw[Zn (x:=-(-((256-pl)*p.Track.Radius+pl*s.Error)/256)+2) (by omega),Zn (x:=p.Track.Hits+1) (by have:=hf.2.2.2.2.2.1;omega),Zn (x:=-(-((256-sp)*p.Slack+sp*M)/256)+2) (by omega),hpt]
 have hU:FN f s accel pl sp d=(⟨⟨p.Track.ID,p.Track.State,s.Time,⟨p.Track.At.X+(s.At.X-p.Track.At.X)*pl/256,p.Track.At.Y+(s.At.Y-p.Track.At.Y)*pl/256⟩,
  ⟨p.Track.Speed.X+(16*(s.At.X-f.Last.At.X)/d-p.Track.Speed.X)*sp/256,p.Track.Speed.Y+(16*(s.At.Y-f.Last.At.Y)/d-p.Track.Speed.Y)*sp/256⟩,
  s.Height,0,-(-((256-pl)*p.Track.Radius+pl*s.Error)/256)+2,s.Code,p.Track.Hits+1,0⟩,-(-((256-sp)*p.Slack+sp*M)/256)+2,s⟩:Za):=by
  rw[hM,hpe];rfl
 rw[← hU]
 have c9:(Zu (FN f s accel pl sp d) != 0)=false:=by simp[XO.2 hin]
 rw[c9,cond_false]
end Go.Sky
end
section
namespace Go.Sky
open Go
structure Ze where
 (rules:Zx)
 (all:List followed)
 (next last:Int)
deriving DecidableEq
def Ze.zero:Ze:=⟨Zx.zero,[],0,0⟩
def Ze.k (t:Ze) (A:Option Addr) (c:Nat):Array Value:=#[.int .i64 t.rules.Need,.int .i64 t.rules.Of,.int .i64 t.rules.Misses,.int .i64 t.rules.Accel,.int .i64 t.rules.Place,.int .i64 t.rules.Speed,.slice A t.all.length c,.int .i64 t.next,.int .i64 t.last]
end Go.Sky
end
section
namespace Go.Sky
open Go Go.Eng Go.Proofs
def YH (f:Za) (limit:Int):Za×Bool×Int :=
 let r1:=Zu f
 cond (r1 != 0) (
  ((⟨⟨0,0,0,⟨0,0⟩,⟨0,0⟩,0,0,0,0,0,0⟩,0,⟨0,⟨0,0⟩,0,0,0⟩⟩:Za),false,r1)) (
  cond ((decide (limit<0))||(decide (limit>100))) (
   ((⟨⟨0,0,0,⟨0,0⟩,⟨0,0⟩,0,0,0,0,0,0⟩,0,⟨0,⟨0,0⟩,0,0,0⟩⟩:Za),false,4)) (
   cond (decide (f.Track.Misses<101)) (
    cond (f.Track.State==1) (
     ((⟨⟨f.Track.ID,2,f.Track.Time,f.Track.At,f.Track.Speed,f.Track.Height,f.Track.Rate,f.Track.Radius,f.Track.Code,f.Track.Hits,w64 (f.Track.Misses+1)⟩,f.Slack,f.Last⟩:Za),decide ((w64 (f.Track.Misses+1))>limit),0)) (
     ((⟨⟨f.Track.ID,f.Track.State,f.Track.Time,f.Track.At,f.Track.Speed,f.Track.Height,f.Track.Rate,f.Track.Radius,f.Track.Code,f.Track.Hits,w64 (f.Track.Misses+1)⟩,f.Slack,f.Last⟩:Za),decide ((w64 (f.Track.Misses+1))>limit),0))) (
    cond (f.Track.State==1) (
     ((⟨⟨f.Track.ID,2,f.Track.Time,f.Track.At,f.Track.Speed,f.Track.Height,f.Track.Rate,f.Track.Radius,f.Track.Code,f.Track.Hits,101⟩,f.Slack,f.Last⟩:Za),decide (101>limit),0)) (
     ((⟨⟨f.Track.ID,f.Track.State,f.Track.Time,f.Track.At,f.Track.Speed,f.Track.Height,f.Track.Rate,f.Track.Radius,f.Track.Code,f.Track.Hits,101⟩,f.Slack,f.Last⟩:Za),decide (101>limit),0)))))
set_option maxHeartbeats 4000000 in
set_option maxRecDepth 100000 in
theorem Dj (f:Za) (limit:Int) (w:World):Calls Tryz.prog 55 #[Za.v f,.int .i64 limit] w (Ret w (.tuple #[Za.v ((YH f limit).1),.bool ((YH f limit).2.1),.int .i64 ((YH f limit).2.2)])):=by
 refine Zk (vs:=[Za.v f,.i limit]) (w:=w) Tryz.func55 rfl Tryz.ntmps55 rfl (TC.sr (TL.nw 2 (fun b1=>.p0 b1) (fun b1=>Bk b1 (Za.c f) 44) (fun b1=>{}) (fun b1=>TL.nw 4 (fun b2=>.p0 b2) (fun b2=>Bk b2 (Za.c Za.zero) 44) (fun b2=>{}) (fun b2=>TL.r 4 [] [(5,.b false),(6,.i 0)] {} (TL.ns (TC.sr (TL.r 1 [1] [(8,Za.v f)] {} (TL.c 9 (Zu f) (fun r1=>.i r1) (fun w _=>XG f w) {} (fun r1 hr1=>TL.r 3 [] [(7,.i r1)] {} (TL.nr (TL.r 2 [] [(11,.b (r1 != 0))] {} (TL.next rfl (TC.cond (r1 != 0) rfl Kr (fun h1=>?_) (fun h1=>?_))))))))))))))
 ·exact TC.sr (TL.r 2 [] [(12,Za.v Za.zero),(13,.i r1)] {} (TL.s 0 (Bk b2 (Za.c Za.zero) 44) (fun _=>{}) (TL.r 5 [] [(5,.b false),(6,.i r1)] {} (TL.next rfl (TC.ret (TE.rt (TE.ret [0] (.tuple #[Za.v (⟨⟨0,0,0,⟨0,0⟩,⟨0,0⟩,0,0,0,0,0,0⟩,0,⟨0,⟨0,0⟩,0,0,0⟩⟩:Za),.b false,.i r1]) {} (by unfold YH;refine eS (a:=((⟨⟨0,0,0,⟨0,0⟩,⟨0,0⟩,0,0,0,0,0,0⟩,0,⟨0,⟨0,0⟩,0,0,0⟩⟩:Za),false,r1)) (fun (z:Za×Bool×Int)=>(.tuple #[Za.v z.1,.b z.2.1,.i z.2.2]:Value)) ?_;subst hr1;exact Zj h1 (rfl)))))))))
 ·refine TC.sn (TC.seq (TC.sr (TL.r 3 [] [(16,.b (decide (limit<0)))] {} (TL.j 16 (decide (limit<0)) 6 [] [] (fun β=>[(19,.b (β||(decide (limit>100))))]) Kr {} {} (TL.next rfl (TC.cond ((decide (limit<0))||(decide (limit>100))) rfl Kr (fun h2=>?_) (fun h2=>?_)))))))
  ·exact TC.sr (TL.r 1 [] [(20,Za.v Za.zero)] {} (TL.s 0 (Bk b2 (Za.c Za.zero) 44) (fun _=>{}) (TL.r 4 [] [(5,.b false),(6,.i 4)] {} (TL.next rfl (TC.ret (TE.rt (TE.ret [0] (.tuple #[Za.v (⟨⟨0,0,0,⟨0,0⟩,⟨0,0⟩,0,0,0,0,0,0⟩,0,⟨0,⟨0,0⟩,0,0,0⟩⟩:Za),.b false,.i 4]) {} (by unfold YH;refine eS (a:=((⟨⟨0,0,0,⟨0,0⟩,⟨0,0⟩,0,0,0,0,0,0⟩,0,⟨0,⟨0,0⟩,0,0,0⟩⟩:Za),false,4)) (fun (z:Za×Bool×Int)=>(.tuple #[Za.v z.1,.b z.2.1,.i z.2.2]:Value)) ?_;subst hr1;exact Zb h1 (Zj h2 (rfl))))))))))
  ·refine TC.sn (TC.seq (TC.sr (TL.r 4 [1] [(24,.b (decide (f.Track.Misses<101)))] {} (TL.next rfl (TC.cond (decide (f.Track.Misses<101)) rfl Kr (fun h3=>?_) (fun h3=>?_))))))
   ·refine TC.region (TL.r 6 [1] [(28,.i (w64 (f.Track.Misses+1))),(30,.pt b1 12)] {} (TL.s 1 (Bk b1 (Za.c (⟨⟨f.Track.ID,f.Track.State,f.Track.Time,f.Track.At,f.Track.Speed,f.Track.Height,f.Track.Rate,f.Track.Radius,f.Track.Code,f.Track.Hits,w64 (f.Track.Misses+1)⟩,f.Slack,f.Last⟩:Za)) 44) (fun _=>{}) (TL.ns (TC.sr (TL.r 4 [1] [(36,.b (f.Track.State==1))] {} (TL.next rfl (TC.cond (f.Track.State==1) rfl Kr (fun h4=>?_) (fun h4=>?_))))))))
    ·exact TC.region (TL.r 2 [] [(38,.pt b1 1)] {} (TL.s 1 (Bk b1 (Za.c (⟨⟨f.Track.ID,2,f.Track.Time,f.Track.At,f.Track.Speed,f.Track.Height,f.Track.Rate,f.Track.Radius,f.Track.Code,f.Track.Hits,w64 (f.Track.Misses+1)⟩,f.Slack,f.Last⟩:Za)) 44) (fun _=>{}) (TL.ns (TC.drawG 6 [Bk b1 (Za.c (⟨⟨f.Track.ID,2,f.Track.Time,f.Track.At,f.Track.Speed,f.Track.Height,f.Track.Rate,f.Track.Radius,f.Track.Code,f.Track.Hits,w64 (f.Track.Misses+1)⟩,f.Slack,f.Last⟩:Za)) 44] [Bk b2 (Za.c (⟨⟨f.Track.ID,2,f.Track.Time,f.Track.At,f.Track.Speed,f.Track.Height,f.Track.Rate,f.Track.Radius,f.Track.Code,f.Track.Hits,w64 (f.Track.Misses+1)⟩,f.Slack,f.Last⟩:Za)) 44,Bk b1 (Za.c (⟨⟨f.Track.ID,2,f.Track.Time,f.Track.At,f.Track.Speed,f.Track.Height,f.Track.Rate,f.Track.Radius,f.Track.Code,f.Track.Hits,w64 (f.Track.Misses+1)⟩,f.Slack,f.Last⟩:Za)) 44] (sb 2) (sb 2) Kr Kr (TG.run 6 [0,0] [(4,.p0 b2),(39,Za.v (⟨⟨f.Track.ID,2,f.Track.Time,f.Track.At,f.Track.Speed,f.Track.Height,f.Track.Rate,f.Track.Radius,f.Track.Code,f.Track.Hits,w64 (f.Track.Misses+1)⟩,f.Slack,f.Last⟩:Za)),(44,.b (decide ((w64 (f.Track.Misses+1))>limit)))] rfl rfl rfl {} (TG.store 0 rfl (fun _=>{}) (TG.run 9 [] [(4,.p0 b2),(5,.b (decide ((w64 (f.Track.Misses+1))>limit))),(6,.i 0)] rfl rfl rfl {} (TG.next rfl rfl (TC.ret (TE.ret [0] (.tuple #[Za.v (⟨⟨f.Track.ID,2,f.Track.Time,f.Track.At,f.Track.Speed,f.Track.Height,f.Track.Rate,f.Track.Radius,f.Track.Code,f.Track.Hits,w64 (f.Track.Misses+1)⟩,f.Slack,f.Last⟩:Za),.b (decide ((w64 (f.Track.Misses+1))>limit)),.i 0]) {} (by unfold YH;refine eS (a:=((⟨⟨f.Track.ID,2,f.Track.Time,f.Track.At,f.Track.Speed,f.Track.Height,f.Track.Rate,f.Track.Radius,f.Track.Code,f.Track.Hits,w64 (f.Track.Misses+1)⟩,f.Slack,f.Last⟩:Za),decide ((w64 (f.Track.Misses+1))>limit),0)) (fun (z:Za×Bool×Int)=>(.tuple #[Za.v z.1,.b z.2.1,.i z.2.2]:Value)) ?_;subst hr1;exact Zb h1 (Zb h2 (Zj h3 (Zj h4 (rfl)))))))))))))))
    ·exact TC.sn (TC.seq (TC.drawG 6 [Bk b1 (Za.c (⟨⟨f.Track.ID,f.Track.State,f.Track.Time,f.Track.At,f.Track.Speed,f.Track.Height,f.Track.Rate,f.Track.Radius,f.Track.Code,f.Track.Hits,w64 (f.Track.Misses+1)⟩,f.Slack,f.Last⟩:Za)) 44] [Bk b2 (Za.c (⟨⟨f.Track.ID,f.Track.State,f.Track.Time,f.Track.At,f.Track.Speed,f.Track.Height,f.Track.Rate,f.Track.Radius,f.Track.Code,f.Track.Hits,w64 (f.Track.Misses+1)⟩,f.Slack,f.Last⟩:Za)) 44,Bk b1 (Za.c (⟨⟨f.Track.ID,f.Track.State,f.Track.Time,f.Track.At,f.Track.Speed,f.Track.Height,f.Track.Rate,f.Track.Radius,f.Track.Code,f.Track.Hits,w64 (f.Track.Misses+1)⟩,f.Slack,f.Last⟩:Za)) 44] (sb 2) (sb 2) Kr Kr (TG.run 6 [0,0] [(4,.p0 b2),(39,Za.v (⟨⟨f.Track.ID,f.Track.State,f.Track.Time,f.Track.At,f.Track.Speed,f.Track.Height,f.Track.Rate,f.Track.Radius,f.Track.Code,f.Track.Hits,w64 (f.Track.Misses+1)⟩,f.Slack,f.Last⟩:Za)),(44,.b (decide ((w64 (f.Track.Misses+1))>limit)))] rfl rfl rfl {} (TG.store 0 rfl (fun _=>{}) (TG.run 9 [] [(4,.p0 b2),(5,.b (decide ((w64 (f.Track.Misses+1))>limit))),(6,.i 0)] rfl rfl rfl {} (TG.next rfl rfl (TC.ret (TE.ret [0] (.tuple #[Za.v (⟨⟨f.Track.ID,f.Track.State,f.Track.Time,f.Track.At,f.Track.Speed,f.Track.Height,f.Track.Rate,f.Track.Radius,f.Track.Code,f.Track.Hits,w64 (f.Track.Misses+1)⟩,f.Slack,f.Last⟩:Za),.b (decide ((w64 (f.Track.Misses+1))>limit)),.i 0]) {} (by unfold YH;refine eS (a:=((⟨⟨f.Track.ID,f.Track.State,f.Track.Time,f.Track.At,f.Track.Speed,f.Track.Height,f.Track.Rate,f.Track.Radius,f.Track.Code,f.Track.Hits,w64 (f.Track.Misses+1)⟩,f.Slack,f.Last⟩:Za),decide ((w64 (f.Track.Misses+1))>limit),0)) (fun (z:Za×Bool×Int)=>(.tuple #[Za.v z.1,.b z.2.1,.i z.2.2]:Value)) ?_;subst hr1;exact Zb h1 (Zb h2 (Zj h3 (Zb h4 (rfl)))))))))))))
   ·refine TC.region (TL.r 2 [] [(32,.pt b1 12)] {} (TL.s 1 (Bk b1 (Za.c (⟨⟨f.Track.ID,f.Track.State,f.Track.Time,f.Track.At,f.Track.Speed,f.Track.Height,f.Track.Rate,f.Track.Radius,f.Track.Code,f.Track.Hits,101⟩,f.Slack,f.Last⟩:Za)) 44) (fun _=>{}) (TL.ns (TC.sr (TL.r 4 [1] [(36,.b (f.Track.State==1))] {} (TL.next rfl (TC.cond (f.Track.State==1) rfl Kr (fun h5=>?_) (fun h5=>?_))))))))
    ·exact TC.region (TL.r 2 [] [(38,.pt b1 1)] {} (TL.s 1 (Bk b1 (Za.c (⟨⟨f.Track.ID,2,f.Track.Time,f.Track.At,f.Track.Speed,f.Track.Height,f.Track.Rate,f.Track.Radius,f.Track.Code,f.Track.Hits,101⟩,f.Slack,f.Last⟩:Za)) 44) (fun _=>{}) (TL.ns (TC.drawG 6 [Bk b1 (Za.c (⟨⟨f.Track.ID,2,f.Track.Time,f.Track.At,f.Track.Speed,f.Track.Height,f.Track.Rate,f.Track.Radius,f.Track.Code,f.Track.Hits,101⟩,f.Slack,f.Last⟩:Za)) 44] [Bk b2 (Za.c (⟨⟨f.Track.ID,2,f.Track.Time,f.Track.At,f.Track.Speed,f.Track.Height,f.Track.Rate,f.Track.Radius,f.Track.Code,f.Track.Hits,101⟩,f.Slack,f.Last⟩:Za)) 44,Bk b1 (Za.c (⟨⟨f.Track.ID,2,f.Track.Time,f.Track.At,f.Track.Speed,f.Track.Height,f.Track.Rate,f.Track.Radius,f.Track.Code,f.Track.Hits,101⟩,f.Slack,f.Last⟩:Za)) 44] (sb 2) (sb 2) Kr Kr (TG.run 6 [0,0] [(4,.p0 b2),(39,Za.v (⟨⟨f.Track.ID,2,f.Track.Time,f.Track.At,f.Track.Speed,f.Track.Height,f.Track.Rate,f.Track.Radius,f.Track.Code,f.Track.Hits,101⟩,f.Slack,f.Last⟩:Za)),(44,.b (decide (101>limit)))] rfl rfl rfl {} (TG.store 0 rfl (fun _=>{}) (TG.run 9 [] [(4,.p0 b2),(5,.b (decide (101>limit))),(6,.i 0)] rfl rfl rfl {} (TG.next rfl rfl (TC.ret (TE.ret [0] (.tuple #[Za.v (⟨⟨f.Track.ID,2,f.Track.Time,f.Track.At,f.Track.Speed,f.Track.Height,f.Track.Rate,f.Track.Radius,f.Track.Code,f.Track.Hits,101⟩,f.Slack,f.Last⟩:Za),.b (decide (101>limit)),.i 0]) {} (by unfold YH;refine eS (a:=((⟨⟨f.Track.ID,2,f.Track.Time,f.Track.At,f.Track.Speed,f.Track.Height,f.Track.Rate,f.Track.Radius,f.Track.Code,f.Track.Hits,101⟩,f.Slack,f.Last⟩:Za),decide (101>limit),0)) (fun (z:Za×Bool×Int)=>(.tuple #[Za.v z.1,.b z.2.1,.i z.2.2]:Value)) ?_;subst hr1;exact Zb h1 (Zb h2 (Zb h3 (Zj h5 (rfl)))))))))))))))
    ·exact TC.sn (TC.seq (TC.drawG 6 [Bk b1 (Za.c (⟨⟨f.Track.ID,f.Track.State,f.Track.Time,f.Track.At,f.Track.Speed,f.Track.Height,f.Track.Rate,f.Track.Radius,f.Track.Code,f.Track.Hits,101⟩,f.Slack,f.Last⟩:Za)) 44] [Bk b2 (Za.c (⟨⟨f.Track.ID,f.Track.State,f.Track.Time,f.Track.At,f.Track.Speed,f.Track.Height,f.Track.Rate,f.Track.Radius,f.Track.Code,f.Track.Hits,101⟩,f.Slack,f.Last⟩:Za)) 44,Bk b1 (Za.c (⟨⟨f.Track.ID,f.Track.State,f.Track.Time,f.Track.At,f.Track.Speed,f.Track.Height,f.Track.Rate,f.Track.Radius,f.Track.Code,f.Track.Hits,101⟩,f.Slack,f.Last⟩:Za)) 44] (sb 2) (sb 2) Kr Kr (TG.run 6 [0,0] [(4,.p0 b2),(39,Za.v (⟨⟨f.Track.ID,f.Track.State,f.Track.Time,f.Track.At,f.Track.Speed,f.Track.Height,f.Track.Rate,f.Track.Radius,f.Track.Code,f.Track.Hits,101⟩,f.Slack,f.Last⟩:Za)),(44,.b (decide (101>limit)))] rfl rfl rfl {} (TG.store 0 rfl (fun _=>{}) (TG.run 9 [] [(4,.p0 b2),(5,.b (decide (101>limit))),(6,.i 0)] rfl rfl rfl {} (TG.next rfl rfl (TC.ret (TE.ret [0] (.tuple #[Za.v (⟨⟨f.Track.ID,f.Track.State,f.Track.Time,f.Track.At,f.Track.Speed,f.Track.Height,f.Track.Rate,f.Track.Radius,f.Track.Code,f.Track.Hits,101⟩,f.Slack,f.Last⟩:Za),.b (decide (101>limit)),.i 0]) {} (by unfold YH;refine eS (a:=((⟨⟨f.Track.ID,f.Track.State,f.Track.Time,f.Track.At,f.Track.Speed,f.Track.Height,f.Track.Rate,f.Track.Radius,f.Track.Code,f.Track.Hits,101⟩,f.Slack,f.Last⟩:Za),decide (101>limit),0)) (fun (z:Za×Bool×Int)=>(.tuple #[Za.v z.1,.b z.2.1,.i z.2.2]:Value)) ?_;subst hr1;exact Zb h1 (Zb h2 (Zb h3 (Zb h5 (rfl)))))))))))))
def XP (f:Za):Za×Int :=
 let r1:=Zu f
 cond (r1 != 0) (
  ((⟨⟨0,0,0,⟨0,0⟩,⟨0,0⟩,0,0,0,0,0,0⟩,0,⟨0,⟨0,0⟩,0,0,0⟩⟩:Za),r1)) (
  cond (f.Track.State==2) (
   ((⟨⟨f.Track.ID,1,f.Track.Time,f.Track.At,f.Track.Speed,f.Track.Height,f.Track.Rate,f.Track.Radius,f.Track.Code,f.Track.Hits,0⟩,f.Slack,f.Last⟩:Za),0)) (
   ((⟨⟨f.Track.ID,f.Track.State,f.Track.Time,f.Track.At,f.Track.Speed,f.Track.Height,f.Track.Rate,f.Track.Radius,f.Track.Code,f.Track.Hits,0⟩,f.Slack,f.Last⟩:Za),0)))
set_option maxRecDepth 100000 in
theorem FO (f:Za) (w:World):Calls Tryz.prog 54 #[Za.v f] w (Ret w (.tuple #[Za.v ((XP f).1),.int .i64 ((XP f).2)])):=by
 refine Zk (vs:=[Za.v f]) (w:=w) Tryz.func54 rfl Tryz.ntmps54 rfl (TC.sr (TL.nw 1 (fun b1=>.p0 b1) (fun b1=>Bk b1 (Za.c f) 44) (fun b1=>{}) (fun b1=>TL.nw 2 (fun b2=>.p0 b2) (fun b2=>Bk b2 (Za.c Za.zero) 44) (fun b2=>{}) (fun b2=>TL.r 3 [] [(3,.i 0)] {} (TL.ns (TC.sr (TL.r 1 [1] [(5,Za.v f)] {} (TL.c 6 (Zu f) (fun r1=>.i r1) (fun w _=>XG f w) {} (fun r1 hr1=>TL.r 3 [] [(4,.i r1)] {} (TL.nr (TL.r 2 [] [(8,.b (r1 != 0))] {} (TL.next rfl (TC.cond (r1 != 0) rfl Kr (fun h1=>?_) (fun h1=>?_))))))))))))))
 ·exact TC.sr (TL.r 2 [] [(9,Za.v Za.zero),(10,.i r1)] {} (TL.s 0 (Bk b2 (Za.c Za.zero) 44) (fun _=>{}) (TL.r 4 [] [(3,.i r1)] {} (TL.next rfl (TC.ret (TE.rt (TE.ret [0] (.tuple #[Za.v (⟨⟨0,0,0,⟨0,0⟩,⟨0,0⟩,0,0,0,0,0,0⟩,0,⟨0,⟨0,0⟩,0,0,0⟩⟩:Za),.i r1]) {} (by unfold XP;refine eS (a:=((⟨⟨0,0,0,⟨0,0⟩,⟨0,0⟩,0,0,0,0,0,0⟩,0,⟨0,⟨0,0⟩,0,0,0⟩⟩:Za),r1)) (fun (z:Za×Int)=>(.tuple #[Za.v z.1,.i z.2]:Value)) ?_;subst hr1;exact Zj h1 (rfl)))))))))
 ·refine TC.snr (TL.r 2 [] [(12,.pt b1 12)] {} (TL.s 1 (Bk b1 (Za.c (⟨⟨f.Track.ID,f.Track.State,f.Track.Time,f.Track.At,f.Track.Speed,f.Track.Height,f.Track.Rate,f.Track.Radius,f.Track.Code,f.Track.Hits,0⟩,f.Slack,f.Last⟩:Za)) 44) (fun _=>{}) (TL.ns (TC.sr (TL.r 4 [1] [(16,.b (f.Track.State==2))] {} (TL.next rfl (TC.cond (f.Track.State==2) rfl Kr (fun h2=>?_) (fun h2=>?_))))))))
  ·exact TC.region (TL.r 2 [] [(18,.pt b1 1)] {} (TL.s 1 (Bk b1 (Za.c (⟨⟨f.Track.ID,1,f.Track.Time,f.Track.At,f.Track.Speed,f.Track.Height,f.Track.Rate,f.Track.Radius,f.Track.Code,f.Track.Hits,0⟩,f.Slack,f.Last⟩:Za)) 44) (fun _=>{}) (TL.nr (TL.r 1 [1] [(19,Za.v (⟨⟨f.Track.ID,1,f.Track.Time,f.Track.At,f.Track.Speed,f.Track.Height,f.Track.Rate,f.Track.Radius,f.Track.Code,f.Track.Hits,0⟩,f.Slack,f.Last⟩:Za))] {} (TL.s 0 (Bk b2 (Za.c (⟨⟨f.Track.ID,1,f.Track.Time,f.Track.At,f.Track.Speed,f.Track.Height,f.Track.Rate,f.Track.Radius,f.Track.Code,f.Track.Hits,0⟩,f.Slack,f.Last⟩:Za)) 44) (fun _=>{}) (TL.r 3 [] [(3,.i 0)] {} (TL.next rfl (TC.ret (TE.ret [0] (.tuple #[Za.v (⟨⟨f.Track.ID,1,f.Track.Time,f.Track.At,f.Track.Speed,f.Track.Height,f.Track.Rate,f.Track.Radius,f.Track.Code,f.Track.Hits,0⟩,f.Slack,f.Last⟩:Za),.i 0]) {} (by unfold XP;refine eS (a:=((⟨⟨f.Track.ID,1,f.Track.Time,f.Track.At,f.Track.Speed,f.Track.Height,f.Track.Rate,f.Track.Radius,f.Track.Code,f.Track.Hits,0⟩,f.Slack,f.Last⟩:Za),0)) (fun (z:Za×Int)=>(.tuple #[Za.v z.1,.i z.2]:Value)) ?_;subst hr1;exact Zb h1 (Zj h2 (rfl))))))))))))
  ·exact TC.snr (TL.r 1 [1] [(19,Za.v (⟨⟨f.Track.ID,f.Track.State,f.Track.Time,f.Track.At,f.Track.Speed,f.Track.Height,f.Track.Rate,f.Track.Radius,f.Track.Code,f.Track.Hits,0⟩,f.Slack,f.Last⟩:Za))] {} (TL.s 0 (Bk b2 (Za.c (⟨⟨f.Track.ID,f.Track.State,f.Track.Time,f.Track.At,f.Track.Speed,f.Track.Height,f.Track.Rate,f.Track.Radius,f.Track.Code,f.Track.Hits,0⟩,f.Slack,f.Last⟩:Za)) 44) (fun _=>{}) (TL.r 3 [] [(3,.i 0)] {} (TL.next rfl (TC.ret (TE.ret [0] (.tuple #[Za.v (⟨⟨f.Track.ID,f.Track.State,f.Track.Time,f.Track.At,f.Track.Speed,f.Track.Height,f.Track.Rate,f.Track.Radius,f.Track.Code,f.Track.Hits,0⟩,f.Slack,f.Last⟩:Za),.i 0]) {} (by unfold XP;refine eS (a:=((⟨⟨f.Track.ID,f.Track.State,f.Track.Time,f.Track.At,f.Track.Speed,f.Track.Height,f.Track.Rate,f.Track.Radius,f.Track.Code,f.Track.Hits,0⟩,f.Slack,f.Last⟩:Za),0)) (fun (z:Za×Int)=>(.tuple #[Za.v z.1,.i z.2]:Value)) ?_;subst hr1;exact Zb h1 (Zb h2 (rfl)))))))))
def Q3 (x:Int):Int :=
 let r1:=YO ((ZE .u64 ((YO ((ZE .u64 (x.fdiv (2 ^ 1)) 6148914691236517205)+(ZE .u64 x 6148914691236517205))).fdiv (2 ^ 2)) 3689348814741910323)+(ZE .u64 (YO ((ZE .u64 (x.fdiv (2 ^ 1)) 6148914691236517205)+(ZE .u64 x 6148914691236517205))) 3689348814741910323))
 let r2:=YO ((YO ((ZE .u64 (YO ((r1.fdiv (2 ^ 4))+r1)) 1085102592571150095)+((ZE .u64 (YO ((r1.fdiv (2 ^ 4))+r1)) 1085102592571150095).fdiv (2 ^ 8))))+((YO ((ZE .u64 (YO ((r1.fdiv (2 ^ 4))+r1)) 1085102592571150095)+((ZE .u64 (YO ((r1.fdiv (2 ^ 4))+r1)) 1085102592571150095).fdiv (2 ^ 8)))).fdiv (2 ^ 16)))
 ZE .i64 (w64 (YO (r2+(r2.fdiv (2 ^ 32))))) 127
set_option maxRecDepth 100000 in
theorem Vv (x:Int) (w:World):Calls Tryz.prog 234 #[.int .u64 x] w (Ret w (.int .i64 (Q3 x))):=by
 refine Zk (vs:=[.int .u64 x]) (w:=w) Tryz.func234 rfl Tryz.ntmps234 rfl (TC.sr (TL.r 1 [] [(2,.i 0)] {} (TL.nr (TL.r 7 [] [(0,.int .u64 (YO ((ZE .u64 (x.fdiv (2 ^ 1)) 6148914691236517205)+(ZE .u64 x 6148914691236517205))))] {} (TL.nr (TL.r 7 [] [(0,.int .u64 (YO ((ZE .u64 ((YO ((ZE .u64 (x.fdiv (2 ^ 1)) 6148914691236517205)+(ZE .u64 x 6148914691236517205))).fdiv (2 ^ 2)) 3689348814741910323)+(ZE .u64 (YO ((ZE .u64 (x.fdiv (2 ^ 1)) 6148914691236517205)+(ZE .u64 x 6148914691236517205))) 3689348814741910323))))] {} ?_))))))
 generalize hr1:YO ((ZE .u64 ((YO ((ZE .u64 (x.fdiv (2 ^ 1)) 6148914691236517205)+(ZE .u64 x 6148914691236517205))).fdiv (2 ^ 2)) 3689348814741910323)+(ZE .u64 (YO ((ZE .u64 (x.fdiv (2 ^ 1)) 6148914691236517205)+(ZE .u64 x 6148914691236517205))) 3689348814741910323))=r1
 refine TL.nr (TL.r 6 [] [(0,.int .u64 (ZE .u64 (YO ((r1.fdiv (2 ^ 4))+r1)) 1085102592571150095))] {} (TL.nr (TL.r 5 [] [(0,.int .u64 (YO ((ZE .u64 (YO ((r1.fdiv (2 ^ 4))+r1)) 1085102592571150095)+((ZE .u64 (YO ((r1.fdiv (2 ^ 4))+r1)) 1085102592571150095).fdiv (2 ^ 8)))))] {} (TL.nr (TL.r 5 [] [(0,.int .u64 (YO ((YO ((ZE .u64 (YO ((r1.fdiv (2 ^ 4))+r1)) 1085102592571150095)+((ZE .u64 (YO ((r1.fdiv (2 ^ 4))+r1)) 1085102592571150095).fdiv (2 ^ 8))))+((YO ((ZE .u64 (YO ((r1.fdiv (2 ^ 4))+r1)) 1085102592571150095)+((ZE .u64 (YO ((r1.fdiv (2 ^ 4))+r1)) 1085102592571150095).fdiv (2 ^ 8)))).fdiv (2 ^ 16)))))] {} ?_)))))
 generalize hr2:YO ((YO ((ZE .u64 (YO ((r1.fdiv (2 ^ 4))+r1)) 1085102592571150095)+((ZE .u64 (YO ((r1.fdiv (2 ^ 4))+r1)) 1085102592571150095).fdiv (2 ^ 8))))+((YO ((ZE .u64 (YO ((r1.fdiv (2 ^ 4))+r1)) 1085102592571150095)+((ZE .u64 (YO ((r1.fdiv (2 ^ 4))+r1)) 1085102592571150095).fdiv (2 ^ 8)))).fdiv (2 ^ 16)))=r2
 exact TL.nr (TL.r 5 [] [(0,.int .u64 (YO (r2+(r2.fdiv (2 ^ 32)))))] {} (TL.nr (TL.r 4 [] [(2,.i (ZE .i64 (w64 (YO (r2+(r2.fdiv (2 ^ 32))))) 127))] {} (TL.next rfl (TC.ret (TE.ret [] (.i (ZE .i64 (w64 (YO (r2+(r2.fdiv (2 ^ 32))))) 127)) {} (by unfold Q3;refine eS (fun z=>(.i z:Value)) ?_;subst hr1 hr2;exact rfl)))))))
def QP (x:Int):Int :=
 let r1:=Q3 x
 r1
set_option maxRecDepth 100000 in
theorem VT (x:Int) (w:World):Calls Tryz.prog 222 #[.int .u64 x] w (Ret w (.int .i64 (QP x))):=by
 exact Zk (vs:=[.int .u64 x]) (w:=w) Tryz.func222 rfl Tryz.ntmps222 rfl (TC.sr (TL.r 1 [] [(2,.i 0)] {} (TL.ns (TC.condF rfl Kr (TC.snr (TL.r 1 [] [(6,.int .u64 x)] {} (TL.c 7 (Q3 x) (fun r1=>.i r1) (fun w _=>Vv x w) {} (fun r1 hr1=>TL.r 3 [] [(2,.i r1)] {} (TL.next rfl (TC.ret (TE.ret [] (.i r1) {} (by unfold QP;refine eS (fun z=>(.i z:Value)) ?_;subst hr1;exact rfl))))))))))))
def Xy (need:Int) (of_:Int):Int :=
 cond ((((decide (of_<1))||(decide (of_>16)))||(decide (need<1)))||(decide (need>of_))) (
  4) (
  0)
set_option maxRecDepth 100000 in
theorem Ve (need:Int) (of_:Int) (w:World):Calls Tryz.prog 150 #[.int .i64 need,.int .i64 of_] w (Ret w (.int .i64 (Xy need of_))):=by
 refine Zk (vs:=[.i need,.i of_]) (w:=w) Tryz.func150 rfl Tryz.ntmps150 rfl (TC.sr (TL.r 1 [] [(4,.i 0)] {} (TL.ns (TC.sr (TL.r 3 [] [(7,.b (decide (of_<1)))] {} (TL.j 7 (decide (of_<1)) 6 [] [] (fun β=>[(10,.b (β||(decide (of_>16))))]) Kr {} {} (TL.r 7 [] [(11,.b ((decide (of_<1))||(decide (of_>16))))] {} (TL.j 11 ((decide (of_<1))||(decide (of_>16))) 10 [] [] (fun β=>[(14,.b (β||(decide (need<1))))]) Kr {} {} (TL.r 11 [] [(15,.b (((decide (of_<1))||(decide (of_>16)))||(decide (need<1))))] {} (TL.j 15 (((decide (of_<1))||(decide (of_>16)))||(decide (need<1))) 15 [] [] (fun β=>[(19,.b (β||(decide (need>of_))))]) Kr {} {} (TL.next rfl (TC.cond ((((decide (of_<1))||(decide (of_>16)))||(decide (need<1)))||(decide (need>of_))) rfl Kr (fun h1=>?_) (fun h1=>?_)))))))))))))
 ·exact TC.sr (TL.r 1 [] [(4,.i 4)] {} (TL.next rfl (TC.ret (TE.rt (TE.ret [] (.i 4) {} (by unfold Xy;refine eS (fun z=>(.i z:Value)) ?_;exact Zj h1 (rfl)))))))
 ·exact TC.snr (TL.r 1 [] [(4,.i 0)] {} (TL.next rfl (TC.ret (TE.ret [] (.i 0) {} (by unfold Xy;refine eS (fun z=>(.i z:Value)) ?_;exact Zb h1 (rfl))))))
def Jr (b_:Zc):Int :=
 cond ((decide (b_.Scans<0))||(decide (b_.Scans>16))) (
  4) (
  cond (decide (b_.Hits<0)) (
   3) (
   cond (decide (b_.Hits≥(w64 (1*2 ^ (min b_.Scans.toNat 64))))) (
    3) (
    0)))
set_option maxRecDepth 100000 in
theorem Bc (b_:Zc) (w:World):Calls Tryz.prog 155 #[Zc.v b_] w (Ret w (.int .i64 (Jr b_))):=by
 refine Zk (vs:=[Zc.v b_]) (w:=w) Tryz.func155 rfl Tryz.ntmps155 rfl (TC.sr (TL.nw 1 (fun b1=>.p0 b1) (fun b1=>Bk b1 (Zc.c b_) 120) (fun b1=>{}) (fun b1=>TL.r 2 [] [(2,.i 0)] {} (TL.ns (TC.block (TC.sr (TL.r 4 [0] [(7,.b (decide (b_.Scans<0)))] {} (TL.j 7 (decide (b_.Scans<0)) 8 [] [0] (fun β=>[(11,.b (β||(decide (b_.Scans>16))))]) Kr {} {} (TL.r 9 [] [(3,.b ((decide (b_.Scans<0))||(decide (b_.Scans>16))))] {} (TL.next rfl (TC.cond ((decide (b_.Scans<0))||(decide (b_.Scans>16))) rfl Kr (fun h1=>?_) (fun h1=>?_))))))))))))
 ·refine TC.sr (TL.r 1 [] [(2,.i 4)] {} (TL.next rfl (TC.ret (TE.rb (TE.rt ?_)))))
  exact TE.ret [] (.i 4) {} (by unfold Jr;refine eS (fun z=>(.i z:Value)) ?_;exact Zj h1 (rfl))
 ·have q1_0:=(Zq (Zt h1))
  have q1_1:=(Zq (ZR h1))
  refine TC.seq (TC.draw 12 Kr Kr Kr (TQ.r 4 [0] [(16,.b (decide (b_.Hits<0)))] {} (TQ.split 16 (decide (b_.Hits<0)) Kr (fun h2=>?_) (fun h2=>?_))))
  ·refine TQ.r 12 [] [(12,.b true)] {} (TQ.next rfl (TC.condT rfl Kr (TC.sr (TL.r 1 [] [(2,.i 3)] {} (TL.next rfl (TC.ret (TE.rb (TE.rt ?_))))))))
   exact TE.ret [] (.i 3) {} (by unfold Jr;refine eS (fun z=>(.i z:Value)) ?_;exact Zb h1 (Zj h2 (rfl)))
  ·have q2_0:=(Zq h2)
   refine TQ.r 8 [0,0] [(18,.i b_.Hits),(20,.i b_.Scans)] {} (TQ.v (sV (binOp .shl 3 (.i 1) (.i b_.Scans))) 21 (.i (w64 (1*2 ^ (min b_.Scans.toNat 64)))) (fun w hM=>Lu sd) rfl {} (TQ.r 12 [] [(12,.b (decide (b_.Hits≥(w64 (1*2 ^ (min b_.Scans.toNat 64))))))] {} (TQ.next rfl (TC.cond (decide (b_.Hits≥(w64 (1*2 ^ (min b_.Scans.toNat 64))))) rfl Kr (fun h3=>?_) (fun h3=>?_)))))
   ·refine TC.sr (TL.r 1 [] [(2,.i 3)] {} (TL.next rfl (TC.ret (TE.rb (TE.rt ?_)))))
    exact TE.ret [] (.i 3) {} (by unfold Jr;refine eS (fun z=>(.i z:Value)) ?_;exact Zb h1 (Zb h2 (Zj h3 (rfl))))
   ·exact TC.skip (TE.nb (TE.nr (TL.r 1 [] [(2,.i 0)] {} (TL.next rfl (TC.ret (TE.ret [] (.i 0) {} (by unfold Jr;refine eS (fun z=>(.i z:Value)) ?_;exact Zb h1 (Zb h2 (Zb h3 (rfl))))))))))
def QI (b_:Zc) (last:Int):Int :=
 let r1:=QP (YO (ZE .i64 b_.Hits (w64 ((w64 (1*2 ^ (min last.toNat 64)))-1))))
 r1
set_option maxRecDepth 100000 in
theorem KC (b_:Zc) (last:Int) (w:World) (h0:0≤last):Calls Tryz.prog 192 #[Zc.v b_,.int .i64 last] w (Ret w (.int .i64 (QI b_ last))):=by
 exact Zk (vs:=[Zc.v b_,.i last]) (w:=w) Tryz.func192 rfl Tryz.ntmps192 rfl (TC.sr (TL.nw 2 (fun b1=>.p0 b1) (fun b1=>Bk b1 (Zc.c b_) 120) (fun b1=>{}) (fun b1=>TL.r 2 [] [(4,.i 0)] {} (TL.ns (TC.draw 9 Kr Kr Kr (TQ.r 3 [0] [(6,.i b_.Hits),(7,.i last)] {} (TQ.v (sV (binOp .shl 3 (.i 1) (.i last))) 8 (.i (w64 (1*2 ^ (min last.toNat 64)))) (fun w hM=>Lu h0) rfl {} (TQ.r 7 [] [(11,.int .u64 (YO (ZE .i64 b_.Hits (w64 ((w64 (1*2 ^ (min last.toNat 64)))-1)))))] {} (TQ.c 12 (QP (YO (ZE .i64 b_.Hits (w64 ((w64 (1*2 ^ (min last.toNat 64)))-1))))) (fun r1=>.i r1) (fun w _=>VT (YO (ZE .i64 b_.Hits (w64 ((w64 (1*2 ^ (min last.toNat 64)))-1)))) w) rfl {} (fun r1 hr1=>TQ.r 9 [] [(4,.i r1)] {} (TQ.next rfl (TC.ret (TE.ret [] (.i r1) {} (by unfold QI;refine eS (fun z=>(.i z:Value)) ?_;subst hr1;exact rfl))))))))))))))
def Kt (b_:Zc) (need:Int) (of_:Int):Nat→Nat→((Unit) ⊕ (Zc×Int))
 | 0,_=>.inl ()
 | m+1,k=>let r2:=QI (⟨kor .i64 (ZE .i64 (w64 (b_.Hits*2 ^ 1)) 65535) 1,Yl 16 (w64 (b_.Scans+1))⟩:Zc) (w64 (of_-(1+(k:Int))))
  cond ((decide (r2>0))&&(decide ((w64 (r2+(1+(k:Int))))≥need))) (
   .inr ((⟨kor .i64 (ZE .i64 (w64 (b_.Hits*2 ^ 1)) 65535) 1,Yl 16 (w64 (b_.Scans+1))⟩:Zc),0)) (
   Kt b_ need of_ m (k+1))
def Ku (b_:Zc) (need:Int) (of_:Int):Nat→Nat→((Unit) ⊕ (Zc×Int))
 | 0,_=>.inl ()
 | m+1,k_2=>let r4:=QI (⟨ZE .i64 (w64 (b_.Hits*2 ^ 1)) 65535,Yl 16 (w64 (b_.Scans+1))⟩:Zc) (w64 (of_-(1+(k_2:Int))))
  cond ((decide (r4>0))&&(decide ((w64 (r4+(1+(k_2:Int))))≥need))) (
   .inr ((⟨ZE .i64 (w64 (b_.Hits*2 ^ 1)) 65535,Yl 16 (w64 (b_.Scans+1))⟩:Zc),0)) (
   Ku b_ need of_ m (k_2+1))
def Qh (b_:Zc) (hit:Bool) (need:Int) (of_:Int):Zc×Int :=
 cond hit (
  let r1:=QI (⟨kor .i64 (ZE .i64 (w64 (b_.Hits*2 ^ 1)) 65535) 1,Yl 16 (w64 (b_.Scans+1))⟩:Zc) of_
  cond (decide (r1≥need)) (
   ((⟨kor .i64 (ZE .i64 (w64 (b_.Hits*2 ^ 1)) 65535) 1,Yl 16 (w64 (b_.Scans+1))⟩:Zc),1)) (
   cond (decide ((Yl 16 (w64 (b_.Scans+1)))<of_)) (
    ((⟨kor .i64 (ZE .i64 (w64 (b_.Hits*2 ^ 1)) 65535) 1,Yl 16 (w64 (b_.Scans+1))⟩:Zc),0)) (
    Sum.elim (fun _ =>
     ((⟨kor .i64 (ZE .i64 (w64 (b_.Hits*2 ^ 1)) 65535) 1,Yl 16 (w64 (b_.Scans+1))⟩:Zc),2)) (fun r=>r) (Kt b_ need of_ ((of_-1).toNat) 0)))) (
  let r3:=QI (⟨ZE .i64 (w64 (b_.Hits*2 ^ 1)) 65535,Yl 16 (w64 (b_.Scans+1))⟩:Zc) of_
  cond (decide (r3≥need)) (
   ((⟨ZE .i64 (w64 (b_.Hits*2 ^ 1)) 65535,Yl 16 (w64 (b_.Scans+1))⟩:Zc),1)) (
   cond (decide ((Yl 16 (w64 (b_.Scans+1)))<of_)) (
    ((⟨ZE .i64 (w64 (b_.Hits*2 ^ 1)) 65535,Yl 16 (w64 (b_.Scans+1))⟩:Zc),0)) (
    Sum.elim (fun _ =>
     ((⟨ZE .i64 (w64 (b_.Hits*2 ^ 1)) 65535,Yl 16 (w64 (b_.Scans+1))⟩:Zc),2)) (fun r=>r) (Ku b_ need of_ ((of_-1).toNat) 0))))
set_option maxHeartbeats 4000000 in
set_option maxRecDepth 100000 in
theorem Dk (b_:Zc) (hit:Bool) (need:Int) (of_:Int) (w:World) (hof:1≤of_∧of_≤16):Calls Tryz.prog 156 #[Zc.v b_,.bool hit,.int .i64 need,.int .i64 of_] w (Ret w (.tuple #[Zc.v ((Qh b_ hit need of_).1),.int .i64 ((Qh b_ hit need of_).2)])):=by
 refine Zk (vs:=[Zc.v b_,.b hit,.i need,.i of_]) (w:=w) Tryz.func156 rfl Tryz.ntmps156 rfl (TC.sr (TL.nw 4 (fun b1=>.p0 b1) (fun b1=>Bk b1 (Zc.c b_) 120) (fun b1=>{}) (fun b1=>TL.nw 8 (fun b2=>.p0 b2) (fun b2=>Bk b2 (Zc.c Zc.zero) 120) (fun b2=>{}) (fun b2=>TL.r 3 [] [(9,.i 0)] {} (TL.nr (TL.r 5 [1] [(15,.i (ZE .i64 (w64 (b_.Hits*2 ^ 1)) 65535)),(16,.p0 b1)] {} (TL.s 1 (Bk b1 (Zc.c (⟨ZE .i64 (w64 (b_.Hits*2 ^ 1)) 65535,b_.Scans⟩:Zc)) 120) (fun _=>{}) (TL.ns (TC.sr (TL.r 1 [] [(17,.b hit)] {} (TL.next rfl (TC.cond hit rfl Kr (fun h1=>?_) (fun h1=>?_)))))))))))))
 ·refine TC.region (TL.r 4 [1] [(20,.i (kor .i64 (ZE .i64 (w64 (b_.Hits*2 ^ 1)) 65535) 1)),(21,.p0 b1)] {} (TL.s 1 (Bk b1 (Zc.c (⟨kor .i64 (ZE .i64 (w64 (b_.Hits*2 ^ 1)) 65535) 1,b_.Scans⟩:Zc)) 120) (fun _=>{}) (TL.nr (TL.r 5 [1] [(25,.i (Yl 16 (w64 (b_.Scans+1)))),(26,.pt b1 1)] {} (TL.s 1 (Bk b1 (Zc.c (⟨kor .i64 (ZE .i64 (w64 (b_.Hits*2 ^ 1)) 65535) 1,Yl 16 (w64 (b_.Scans+1))⟩:Zc)) 120) (fun _=>{}) (TL.ns (TC.sr (TL.r 2 [1] [(27,Zc.v (⟨kor .i64 (ZE .i64 (w64 (b_.Hits*2 ^ 1)) 65535) 1,Yl 16 (w64 (b_.Scans+1))⟩:Zc)),(28,.i of_)] {} (TL.c 29 (QI (⟨kor .i64 (ZE .i64 (w64 (b_.Hits*2 ^ 1)) 65535) 1,Yl 16 (w64 (b_.Scans+1))⟩:Zc) of_) (fun r1=>.i r1) (fun w _=>KC (⟨kor .i64 (ZE .i64 (w64 (b_.Hits*2 ^ 1)) 65535) 1,Yl 16 (w64 (b_.Scans+1))⟩:Zc) of_ w (by have m0_:=BR 16 (w64 (b_.Scans+1));have m1_:=BS 16 (w64 (b_.Scans+1));have m2_:=WA 16 (w64 (b_.Scans+1));exact sg)) {} (fun r1 hr1=>TL.r 5 [] [(31,.b (decide (r1≥need)))] {} (TL.next rfl (TC.cond (decide (r1≥need)) rfl Kr (fun h2=>?_) (fun h2=>?_)))))))))))))
  ·exact TC.sr (TL.r 1 [1] [(32,Zc.v (⟨kor .i64 (ZE .i64 (w64 (b_.Hits*2 ^ 1)) 65535) 1,Yl 16 (w64 (b_.Scans+1))⟩:Zc))] {} (TL.s 0 (Bk b2 (Zc.c (⟨kor .i64 (ZE .i64 (w64 (b_.Hits*2 ^ 1)) 65535) 1,Yl 16 (w64 (b_.Scans+1))⟩:Zc)) 120) (fun _=>{}) (TL.r 3 [] [(9,.i 1)] {} (TL.next rfl (TC.ret (TE.rt (TE.ret [0] (.tuple #[Zc.v (⟨kor .i64 (ZE .i64 (w64 (b_.Hits*2 ^ 1)) 65535) 1,Yl 16 (w64 (b_.Scans+1))⟩:Zc),.i 1]) {} (by unfold Qh;refine eS (a:=((⟨kor .i64 (ZE .i64 (w64 (b_.Hits*2 ^ 1)) 65535) 1,Yl 16 (w64 (b_.Scans+1))⟩:Zc),1)) (fun (z:Zc×Int)=>(.tuple #[Zc.v z.1,.i z.2]:Value)) ?_;subst hr1;exact Zj h1 (Zj h2 (rfl))))))))))
  ·have q2_0:=(Zq h2)
   refine TC.sn (TC.seq (TC.sr (TL.r 4 [1] [(36,.b (decide ((Yl 16 (w64 (b_.Scans+1)))<of_)))] {} (TL.next rfl (TC.cond (decide ((Yl 16 (w64 (b_.Scans+1)))<of_)) rfl Kr (fun h3=>?_) (fun h3=>?_))))))
   ·exact TC.sr (TL.r 1 [1] [(37,Zc.v (⟨kor .i64 (ZE .i64 (w64 (b_.Hits*2 ^ 1)) 65535) 1,Yl 16 (w64 (b_.Scans+1))⟩:Zc))] {} (TL.s 0 (Bk b2 (Zc.c (⟨kor .i64 (ZE .i64 (w64 (b_.Hits*2 ^ 1)) 65535) 1,Yl 16 (w64 (b_.Scans+1))⟩:Zc)) 120) (fun _=>{}) (TL.r 3 [] [(9,.i 0)] {} (TL.next rfl (TC.ret (TE.rt (TE.ret [0] (.tuple #[Zc.v (⟨kor .i64 (ZE .i64 (w64 (b_.Hits*2 ^ 1)) 65535) 1,Yl 16 (w64 (b_.Scans+1))⟩:Zc),.i 0]) {} (by unfold Qh;refine eS (a:=((⟨kor .i64 (ZE .i64 (w64 (b_.Hits*2 ^ 1)) 65535) 1,Yl 16 (w64 (b_.Scans+1))⟩:Zc),0)) (fun (z:Zc×Int)=>(.tuple #[Zc.v z.1,.i z.2]:Value)) ?_;subst hr1;exact Zj h1 (Zb h2 (Zj h3 (rfl)))))))))))
   ·have q3_0:=(Zq h3)
    refine TC.sn (TC.seq (TC.sr (TL.r 1 [] [(10,.i 1)] {} (TL.next rfl ?_))))
    obtain⟨R1,hR⟩:∃ R,R=Kt b_ need of_ ((of_-1).toNat) 0:=⟨_,rfl⟩
    refine TC.cut (S:=Unit) (fun (_:Unit)=>[(4,.p0 b1),(8,.p0 b2)]) (fun (_:Unit)=>[Bk b2 (Zc.c Zc.zero) 120,Bk b1 (Zc.c (⟨kor .i64 (ZE .i64 (w64 (b_.Hits*2 ^ 1)) 65535) 1,Yl 16 (w64 (b_.Scans+1))⟩:Zc)) 120]) (fun (_:Unit)=>R1=.inl ()) ?_ ?_
    ·refine TC.block (TC.rw 10 (.i 1) (.i (1+((0:Nat):Int))) Kr (int_eq (by first|omega|(rw[Zn (by omega)];omega)|(simp only[Yi];omega))) (TC.lw (X:=Nat) (fun k=>[(2,.i need),(3,.i of_),(4,.p0 b1),(8,.p0 b2),(10,.i (1+(k:Int)))]) (fun k=>[Bk b2 (Zc.c Zc.zero) 120,Bk b1 (Zc.c (⟨kor .i64 (ZE .i64 (w64 (b_.Hits*2 ^ 1)) 65535) 1,Yl 16 (w64 (b_.Scans+1))⟩:Zc)) 120]) (fun k=>((of_-1).toNat)-k) (fun k=>k≤((of_-1).toNat)∧R1=Kt b_ need of_ (((of_-1).toNat)-k) k) ?_ 0 ⟨Nat.zero_le _,hR⟩ Kr (sb 3)))
     rintro k ⟨hk,hI⟩
     refine TC.seq (TC.sr (TL.r 3 [] [(40,.b (decide ((1+(k:Int))<of_)))] {} (TL.next rfl (TC.cond (decide ((1+(k:Int))<of_)) rfl Kr (fun h4=>?_) (fun h4=>?_)))))
     ·have hlt:k<((of_-1).toNat):=by have p0_:=(Z1 h4);first|omega|(simp only[Yi] at *;omega)
      have hd:((of_-1).toNat)-k=(((of_-1).toNat)-(k+1))+1:=by omega
      have q4_0:=(Z1 h4)
      refine TC.sn (TC.seq (TC.block (TC.sr (TL.r 4 [1] [(43,Zc.v (⟨kor .i64 (ZE .i64 (w64 (b_.Hits*2 ^ 1)) 65535) 1,Yl 16 (w64 (b_.Scans+1))⟩:Zc)),(46,.i (w64 (of_-(1+(k:Int)))))] {} (TL.c 47 (QI (⟨kor .i64 (ZE .i64 (w64 (b_.Hits*2 ^ 1)) 65535) 1,Yl 16 (w64 (b_.Scans+1))⟩:Zc) (w64 (of_-(1+(k:Int))))) (fun r2=>.i r2) (fun w _=>KC (⟨kor .i64 (ZE .i64 (w64 (b_.Hits*2 ^ 1)) 65535) 1,Yl 16 (w64 (b_.Scans+1))⟩:Zc) (w64 (of_-(1+(k:Int)))) w (by have m0_:=BR 16 (w64 (b_.Scans+1));have m1_:=BS 16 (w64 (b_.Scans+1));have m2_:=WA 16 (w64 (b_.Scans+1));exact sg)) {} (fun r2 hr2=>TL.r 6 [] [(11,.i r2)] {} (TL.nr (TL.r 3 [] [(50,.b (decide (r2>0)))] {} (TL.j 50 (decide (r2>0)) 9 [] [] (fun β=>[(56,.b (β&&(decide ((w64 (r2+(1+(k:Int))))≥need))))]) Kr {} {} (TL.next rfl (TC.cond ((decide (r2>0))&&(decide ((w64 (r2+(1+(k:Int))))≥need))) rfl Kr (fun h5=>?_) (fun h5=>?_))))))))))))
      ·refine TC.sr (TL.r 1 [1] [(57,Zc.v (⟨kor .i64 (ZE .i64 (w64 (b_.Hits*2 ^ 1)) 65535) 1,Yl 16 (w64 (b_.Scans+1))⟩:Zc))] {} (TL.s 0 (Bk b2 (Zc.c (⟨kor .i64 (ZE .i64 (w64 (b_.Hits*2 ^ 1)) 65535) 1,Yl 16 (w64 (b_.Scans+1))⟩:Zc)) 120) (fun _=>{}) (TL.r 3 [] [(9,.i 0)] {} (TL.next rfl (TC.ret (TE.rb (TE.rt (TE.rt (TE.rb (TE.rt (TE.rt ?_)))))))))))
       exact TE.ret [0] (.tuple #[Zc.v (⟨kor .i64 (ZE .i64 (w64 (b_.Hits*2 ^ 1)) 65535) 1,Yl 16 (w64 (b_.Scans+1))⟩:Zc),.i 0]) {} (by unfold Qh;refine eS (a:=((⟨kor .i64 (ZE .i64 (w64 (b_.Hits*2 ^ 1)) 65535) 1,Yl 16 (w64 (b_.Scans+1))⟩:Zc),0)) (fun (z:Zc×Int)=>(.tuple #[Zc.v z.1,.i z.2]:Value)) ?_;subst hr1 hr2;exact Zj h1 (Zb h2 (Zb h3 (X3 (hR.symm.trans (hI.trans (by rw[hd];exact Zj h5 (rfl)))) rfl))))
      ·have q5_0:=((X8 h5).imp (fun h=>(Zq h)) (fun h=>(Zq h)))
       exact TC.skip (TE.nb (TE.next (TC.region (TL.r 3 [] [(10,.i (w64 ((1+(k:Int))+1)))] {} (TL.done rfl (TE.rw 10 (.i (w64 ((1+(k:Int))+1))) (.i (1+((k+1:Nat):Int))) Kr (int_eq (by first|omega|(rw[Zn (by omega)];omega)|(simp only[Yi] at *;omega))) (TE.again (x:=k) (k+1) ⟨by omega,hI.trans (by subst hr1 hr2;rw[hd];exact Zb h5 (rfl))⟩ (mN hlt) Kr (sb 3))))))))
     ·have hd:((of_-1).toNat)-k=0:=by have p0_:=(Zq h4);first|omega|(simp only[Yi] at *;omega)
      refine TC.exit (TE.et (TE.et (TE.exit_same ?_)))
      exact TE.cut () (hI.trans (by subst hr1;rw[hd];exact rfl)) Kr (sb 3)
    ·intro _ hJ
     exact TE.nr (TL.r 1 [1] [(58,Zc.v (⟨kor .i64 (ZE .i64 (w64 (b_.Hits*2 ^ 1)) 65535) 1,Yl 16 (w64 (b_.Scans+1))⟩:Zc))] {} (TL.s 0 (Bk b2 (Zc.c (⟨kor .i64 (ZE .i64 (w64 (b_.Hits*2 ^ 1)) 65535) 1,Yl 16 (w64 (b_.Scans+1))⟩:Zc)) 120) (fun _=>{}) (TL.r 3 [] [(9,.i 2)] {} (TL.next rfl (TC.ret (TE.ret [0] (.tuple #[Zc.v (⟨kor .i64 (ZE .i64 (w64 (b_.Hits*2 ^ 1)) 65535) 1,Yl 16 (w64 (b_.Scans+1))⟩:Zc),.i 2]) {} (by unfold Qh;refine eS (a:=((⟨kor .i64 (ZE .i64 (w64 (b_.Hits*2 ^ 1)) 65535) 1,Yl 16 (w64 (b_.Scans+1))⟩:Zc),2)) (fun (z:Zc×Int)=>(.tuple #[Zc.v z.1,.i z.2]:Value)) ?_;subst hr1;exact Zj h1 (Zb h2 (Zb h3 (Xk (hR.symm.trans hJ) (rfl)))))))))))
 ·refine TC.snr (TL.r 5 [1] [(25,.i (Yl 16 (w64 (b_.Scans+1)))),(26,.pt b1 1)] {} (TL.s 1 (Bk b1 (Zc.c (⟨ZE .i64 (w64 (b_.Hits*2 ^ 1)) 65535,Yl 16 (w64 (b_.Scans+1))⟩:Zc)) 120) (fun _=>{}) (TL.ns (TC.sr (TL.r 2 [1] [(27,Zc.v (⟨ZE .i64 (w64 (b_.Hits*2 ^ 1)) 65535,Yl 16 (w64 (b_.Scans+1))⟩:Zc)),(28,.i of_)] {} (TL.c 29 (QI (⟨ZE .i64 (w64 (b_.Hits*2 ^ 1)) 65535,Yl 16 (w64 (b_.Scans+1))⟩:Zc) of_) (fun r3=>.i r3) (fun w _=>KC (⟨ZE .i64 (w64 (b_.Hits*2 ^ 1)) 65535,Yl 16 (w64 (b_.Scans+1))⟩:Zc) of_ w (by have m0_:=BR 16 (w64 (b_.Scans+1));have m1_:=BS 16 (w64 (b_.Scans+1));have m2_:=WA 16 (w64 (b_.Scans+1));exact sg)) {} (fun r3 hr3=>TL.r 5 [] [(31,.b (decide (r3≥need)))] {} (TL.next rfl (TC.cond (decide (r3≥need)) rfl Kr (fun h6=>?_) (fun h6=>?_))))))))))
  ·exact TC.sr (TL.r 1 [1] [(32,Zc.v (⟨ZE .i64 (w64 (b_.Hits*2 ^ 1)) 65535,Yl 16 (w64 (b_.Scans+1))⟩:Zc))] {} (TL.s 0 (Bk b2 (Zc.c (⟨ZE .i64 (w64 (b_.Hits*2 ^ 1)) 65535,Yl 16 (w64 (b_.Scans+1))⟩:Zc)) 120) (fun _=>{}) (TL.r 3 [] [(9,.i 1)] {} (TL.next rfl (TC.ret (TE.rt (TE.ret [0] (.tuple #[Zc.v (⟨ZE .i64 (w64 (b_.Hits*2 ^ 1)) 65535,Yl 16 (w64 (b_.Scans+1))⟩:Zc),.i 1]) {} (by unfold Qh;refine eS (a:=((⟨ZE .i64 (w64 (b_.Hits*2 ^ 1)) 65535,Yl 16 (w64 (b_.Scans+1))⟩:Zc),1)) (fun (z:Zc×Int)=>(.tuple #[Zc.v z.1,.i z.2]:Value)) ?_;subst hr3;exact Zb h1 (Zj h6 (rfl))))))))))
  ·have q6_0:=(Zq h6)
   refine TC.sn (TC.seq (TC.sr (TL.r 4 [1] [(36,.b (decide ((Yl 16 (w64 (b_.Scans+1)))<of_)))] {} (TL.next rfl (TC.cond (decide ((Yl 16 (w64 (b_.Scans+1)))<of_)) rfl Kr (fun h7=>?_) (fun h7=>?_))))))
   ·exact TC.sr (TL.r 1 [1] [(37,Zc.v (⟨ZE .i64 (w64 (b_.Hits*2 ^ 1)) 65535,Yl 16 (w64 (b_.Scans+1))⟩:Zc))] {} (TL.s 0 (Bk b2 (Zc.c (⟨ZE .i64 (w64 (b_.Hits*2 ^ 1)) 65535,Yl 16 (w64 (b_.Scans+1))⟩:Zc)) 120) (fun _=>{}) (TL.r 3 [] [(9,.i 0)] {} (TL.next rfl (TC.ret (TE.rt (TE.ret [0] (.tuple #[Zc.v (⟨ZE .i64 (w64 (b_.Hits*2 ^ 1)) 65535,Yl 16 (w64 (b_.Scans+1))⟩:Zc),.i 0]) {} (by unfold Qh;refine eS (a:=((⟨ZE .i64 (w64 (b_.Hits*2 ^ 1)) 65535,Yl 16 (w64 (b_.Scans+1))⟩:Zc),0)) (fun (z:Zc×Int)=>(.tuple #[Zc.v z.1,.i z.2]:Value)) ?_;subst hr3;exact Zb h1 (Zb h6 (Zj h7 (rfl)))))))))))
   ·have q7_0:=(Zq h7)
    refine TC.sn (TC.seq (TC.sr (TL.r 1 [] [(10,.i 1)] {} (TL.next rfl ?_))))
    obtain⟨R2,hR_2⟩:∃ R,R=Ku b_ need of_ ((of_-1).toNat) 0:=⟨_,rfl⟩
    refine TC.cut (S:=Unit) (fun (_:Unit)=>[(4,.p0 b1),(8,.p0 b2)]) (fun (_:Unit)=>[Bk b2 (Zc.c Zc.zero) 120,Bk b1 (Zc.c (⟨ZE .i64 (w64 (b_.Hits*2 ^ 1)) 65535,Yl 16 (w64 (b_.Scans+1))⟩:Zc)) 120]) (fun (_:Unit)=>R2=.inl ()) ?_ ?_
    ·refine TC.block (TC.rw 10 (.i 1) (.i (1+((0:Nat):Int))) Kr (int_eq (by first|omega|(rw[Zn (by omega)];omega)|(simp only[Yi];omega))) (TC.lw (X:=Nat) (fun k_2=>[(2,.i need),(3,.i of_),(4,.p0 b1),(8,.p0 b2),(10,.i (1+(k_2:Int)))]) (fun k_2=>[Bk b2 (Zc.c Zc.zero) 120,Bk b1 (Zc.c (⟨ZE .i64 (w64 (b_.Hits*2 ^ 1)) 65535,Yl 16 (w64 (b_.Scans+1))⟩:Zc)) 120]) (fun k_2=>((of_-1).toNat)-k_2) (fun k_2=>k_2≤((of_-1).toNat)∧R2=Ku b_ need of_ (((of_-1).toNat)-k_2) k_2) ?_ 0 ⟨Nat.zero_le _,hR_2⟩ Kr (sb 3)))
     rintro k_2 ⟨hk_2,hI_2⟩
     refine TC.seq (TC.sr (TL.r 3 [] [(40,.b (decide ((1+(k_2:Int))<of_)))] {} (TL.next rfl (TC.cond (decide ((1+(k_2:Int))<of_)) rfl Kr (fun h8=>?_) (fun h8=>?_)))))
     ·have hlt_2:k_2<((of_-1).toNat):=by have p0_:=(Z1 h8);first|omega|(simp only[Yi] at *;omega)
      have hd_2:((of_-1).toNat)-k_2=(((of_-1).toNat)-(k_2+1))+1:=by omega
      have q8_0:=(Z1 h8)
      refine TC.sn (TC.seq (TC.block (TC.sr (TL.r 4 [1] [(43,Zc.v (⟨ZE .i64 (w64 (b_.Hits*2 ^ 1)) 65535,Yl 16 (w64 (b_.Scans+1))⟩:Zc)),(46,.i (w64 (of_-(1+(k_2:Int)))))] {} (TL.c 47 (QI (⟨ZE .i64 (w64 (b_.Hits*2 ^ 1)) 65535,Yl 16 (w64 (b_.Scans+1))⟩:Zc) (w64 (of_-(1+(k_2:Int))))) (fun r4=>.i r4) (fun w _=>KC (⟨ZE .i64 (w64 (b_.Hits*2 ^ 1)) 65535,Yl 16 (w64 (b_.Scans+1))⟩:Zc) (w64 (of_-(1+(k_2:Int)))) w (by have m0_:=BR 16 (w64 (b_.Scans+1));have m1_:=BS 16 (w64 (b_.Scans+1));have m2_:=WA 16 (w64 (b_.Scans+1));exact sg)) {} (fun r4 hr4=>TL.r 6 [] [(11,.i r4)] {} (TL.nr (TL.r 3 [] [(50,.b (decide (r4>0)))] {} (TL.j 50 (decide (r4>0)) 9 [] [] (fun β=>[(56,.b (β&&(decide ((w64 (r4+(1+(k_2:Int))))≥need))))]) Kr {} {} (TL.next rfl (TC.cond ((decide (r4>0))&&(decide ((w64 (r4+(1+(k_2:Int))))≥need))) rfl Kr (fun h9=>?_) (fun h9=>?_))))))))))))
      ·refine TC.sr (TL.r 1 [1] [(57,Zc.v (⟨ZE .i64 (w64 (b_.Hits*2 ^ 1)) 65535,Yl 16 (w64 (b_.Scans+1))⟩:Zc))] {} (TL.s 0 (Bk b2 (Zc.c (⟨ZE .i64 (w64 (b_.Hits*2 ^ 1)) 65535,Yl 16 (w64 (b_.Scans+1))⟩:Zc)) 120) (fun _=>{}) (TL.r 3 [] [(9,.i 0)] {} (TL.next rfl (TC.ret (TE.rb (TE.rt (TE.rt (TE.rb (TE.rt (TE.rt ?_)))))))))))
       exact TE.ret [0] (.tuple #[Zc.v (⟨ZE .i64 (w64 (b_.Hits*2 ^ 1)) 65535,Yl 16 (w64 (b_.Scans+1))⟩:Zc),.i 0]) {} (by unfold Qh;refine eS (a:=((⟨ZE .i64 (w64 (b_.Hits*2 ^ 1)) 65535,Yl 16 (w64 (b_.Scans+1))⟩:Zc),0)) (fun (z:Zc×Int)=>(.tuple #[Zc.v z.1,.i z.2]:Value)) ?_;subst hr3 hr4;exact Zb h1 (Zb h6 (Zb h7 (X3 (hR_2.symm.trans (hI_2.trans (by rw[hd_2];exact Zj h9 (rfl)))) rfl))))
      ·have q9_0:=((X8 h9).imp (fun h=>(Zq h)) (fun h=>(Zq h)))
       exact TC.skip (TE.nb (TE.next (TC.region (TL.r 3 [] [(10,.i (w64 ((1+(k_2:Int))+1)))] {} (TL.done rfl (TE.rw 10 (.i (w64 ((1+(k_2:Int))+1))) (.i (1+((k_2+1:Nat):Int))) Kr (int_eq (by first|omega|(rw[Zn (by omega)];omega)|(simp only[Yi] at *;omega))) (TE.again (x:=k_2) (k_2+1) ⟨by omega,hI_2.trans (by subst hr3 hr4;rw[hd_2];exact Zb h9 (rfl))⟩ (mN hlt_2) Kr (sb 3))))))))
     ·have hd_2:((of_-1).toNat)-k_2=0:=by have p0_:=(Zq h8);first|omega|(simp only[Yi] at *;omega)
      refine TC.exit (TE.et (TE.et (TE.exit_same ?_)))
      exact TE.cut () (hI_2.trans (by subst hr3;rw[hd_2];exact rfl)) Kr (sb 3)
    ·intro _ hJ_2
     exact TE.nr (TL.r 1 [1] [(58,Zc.v (⟨ZE .i64 (w64 (b_.Hits*2 ^ 1)) 65535,Yl 16 (w64 (b_.Scans+1))⟩:Zc))] {} (TL.s 0 (Bk b2 (Zc.c (⟨ZE .i64 (w64 (b_.Hits*2 ^ 1)) 65535,Yl 16 (w64 (b_.Scans+1))⟩:Zc)) 120) (fun _=>{}) (TL.r 3 [] [(9,.i 2)] {} (TL.next rfl (TC.ret (TE.ret [0] (.tuple #[Zc.v (⟨ZE .i64 (w64 (b_.Hits*2 ^ 1)) 65535,Yl 16 (w64 (b_.Scans+1))⟩:Zc),.i 2]) {} (by unfold Qh;refine eS (a:=((⟨ZE .i64 (w64 (b_.Hits*2 ^ 1)) 65535,Yl 16 (w64 (b_.Scans+1))⟩:Zc),2)) (fun (z:Zc×Int)=>(.tuple #[Zc.v z.1,.i z.2]:Value)) ?_;subst hr3;exact Zb h1 (Zb h6 (Zb h7 (Xk (hR_2.symm.trans hJ_2) (rfl)))))))))))
def QJ (b_:Zc) (hit:Bool) (need:Int) (of_:Int):Zc×Int×Int :=
 let r1:=Jr b_
 cond (r1 != 0) (
  ((⟨0,0⟩:Zc),0,r1)) (
  let r2:=Xy need of_
  cond (r2 != 0) (
   ((⟨0,0⟩:Zc),0,r2)) (
   let r3:=Qh b_ hit need of_
   (r3.1,r3.2,0)))
theorem SX {need of_ r:Int} (hr:Xy need of_=r) (h:(r != 0)=false):1≤of_∧of_≤16:=by
 subst hr
 unfold Xy at h
 cases hc:((((decide (of_<1))||(decide (of_>16)))||(decide (need<1)))||(decide (need>of_))) with
 | true=>simp only[hc,cond_true] at h;cases h
 | false =>
  have q:=Zt (Zt hc)
  have q1:=Zq (Zt q)
  have q2:=Zq (ZR q)
  omega
set_option maxRecDepth 100000 in
theorem Dl (b_:Zc) (hit:Bool) (need:Int) (of_:Int) (w:World):Calls Tryz.prog 113 #[Zc.v b_,.bool hit,.int .i64 need,.int .i64 of_] w (Ret w (.tuple #[Zc.v ((QJ b_ hit need of_).1),.int .i64 ((QJ b_ hit need of_).2.1),.int .i64 ((QJ b_ hit need of_).2.2)])):=by
 refine Zk (vs:=[Zc.v b_,.b hit,.i need,.i of_]) (w:=w) Tryz.func113 rfl Tryz.ntmps113 rfl (TC.sr (TL.nw 4 (fun b1=>.p0 b1) (fun b1=>Bk b1 (Zc.c b_) 120) (fun b1=>{}) (fun b1=>TL.nw 8 (fun b2=>.p0 b2) (fun b2=>Bk b2 (Zc.c Zc.zero) 120) (fun b2=>{}) (fun b2=>TL.r 4 [] [(9,.i 0),(10,.i 0)] {} (TL.ns (TC.sr (TL.r 1 [1] [(14,Zc.v b_)] {} (TL.c 15 (Jr b_) (fun r1=>.i r1) (fun w _=>Bc b_ w) {} (fun r1 hr1=>TL.r 3 [] [(11,.i r1)] {} (TL.nr (TL.r 2 [] [(17,.b (r1 != 0))] {} (TL.next rfl (TC.cond (r1 != 0) rfl Kr (fun h1=>?_) (fun h1=>?_))))))))))))))
 ·exact TC.sr (TL.r 2 [] [(18,Zc.v Zc.zero),(19,.i r1)] {} (TL.s 0 (Bk b2 (Zc.c Zc.zero) 120) (fun _=>{}) (TL.r 5 [] [(9,.i 0),(10,.i r1)] {} (TL.next rfl (TC.ret (TE.rt (TE.ret [0] (.tuple #[Zc.v (⟨0,0⟩:Zc),.i 0,.i r1]) {} (by unfold QJ;refine eS (a:=((⟨0,0⟩:Zc),0,r1)) (fun (z:Zc×Int×Int)=>(.tuple #[Zc.v z.1,.i z.2.1,.i z.2.2]:Value)) ?_;subst hr1;exact Zj h1 (rfl)))))))))
 ·refine TC.sn (TC.seq (TC.sr (TL.r 2 [] [(20,.i need),(21,.i of_)] {} (TL.c 22 (Xy need of_) (fun r2=>.i r2) (fun w _=>Ve need of_ w) {} (fun r2 hr2=>TL.r 4 [] [(12,.i r2)] {} (TL.nr (TL.r 2 [] [(24,.b (r2 != 0))] {} (TL.next rfl (TC.cond (r2 != 0) rfl Kr (fun h2=>?_) (fun h2=>?_))))))))))
  ·exact TC.sr (TL.r 2 [] [(25,Zc.v Zc.zero),(26,.i r2)] {} (TL.s 0 (Bk b2 (Zc.c Zc.zero) 120) (fun _=>{}) (TL.r 5 [] [(9,.i 0),(10,.i r2)] {} (TL.next rfl (TC.ret (TE.rt (TE.ret [0] (.tuple #[Zc.v (⟨0,0⟩:Zc),.i 0,.i r2]) {} (by unfold QJ;refine eS (a:=((⟨0,0⟩:Zc),0,r2)) (fun (z:Zc×Int×Int)=>(.tuple #[Zc.v z.1,.i z.2.1,.i z.2.2]:Value)) ?_;subst hr1 hr2;exact Zb h1 (Zj h2 (rfl))))))))))
  ·exact TC.snr (TL.r 4 [1] [(28,Zc.v b_),(29,.b hit),(30,.i need),(31,.i of_)] {} (TL.c 32 (Qh b_ hit need of_) (fun r3=>.tuple #[Zc.v r3.1,.i r3.2]) (fun w _=>Dk b_ hit need of_ w (SX hr2 h2)) {} (fun r3 hr3=>TL.r 8 [] [(33,Zc.v r3.1),(34,.i r3.2)] {} (TL.s 1 (Bk b1 (Zc.c r3.1) 120) (fun _=>{}) (TL.r 10 [] [(13,.i r3.2)] {} (TL.nr (TL.r 2 [1] [(35,Zc.v r3.1),(36,.i r3.2)] {} (TL.s 0 (Bk b2 (Zc.c r3.1) 120) (fun _=>{}) (TL.r 5 [] [(9,.i r3.2),(10,.i 0)] {} (TL.next rfl (TC.ret (TE.ret [0] (.tuple #[Zc.v r3.1,.i r3.2,.i 0]) {} (by unfold QJ;refine eS (a:=(r3.1,r3.2,0)) (fun (z:Zc×Int×Int)=>(.tuple #[Zc.v z.1,.i z.2.1,.i z.2.2]:Value)) ?_;subst hr1 hr2 hr3;exact Zb h1 (Zb h2 (rfl)))))))))))))))
end Go.Sky
end
section
namespace Go.Eng
section
variable {G:Type} {P:Program} {n:Nat} {w0:Ctx} {ops:Array Oper} {base:ZB} {vals:G→List Value} {writes:List Nat} {mem:List Bool→G→Mem}
end
end Go.Eng
namespace Go.Eng
section
variable {G:Type} {P:Program} {n:Nat} {w0:Ctx} {ops:Array Oper} {base:ZB} {vals:G→List Value} {writes:List Nat} {mem:List Bool→G→Mem}
theorem Steps.opL {Γ:Type} (set:Γ→G→G) (E:G→Mem) (E':Γ→G→Mem) (X:(Nat→Bool)→G→Mem) (D:List Nat) (s:G→Sem Next) (d:Option Tmp) (v:Γ→G→Value) {i:Nat}
  (hpre:∀ S γ,S i=false→(∀ e:Nat,(Qn ops.toList i).contains e=true→S e=true)→(∀ k:Nat,(Qn ops.toList k).contains i=true→S k=false)→(mem (writes.map S) γ).Perm (E γ++X S γ))
  (hpost:∀ S γ g,S i=false→(∀ e:Nat,(Qn ops.toList i).contains e=true→S e=true)→(∀ k:Nat,(Qn ops.toList k).contains i=true→S k=false)→(E' g γ++X S γ).Perm (mem (writes.map (upS S i)) (set g γ)))
  (hv:∀ γ M' w,Sat w0 (E γ++M') w→∃ g w',(s γ).run P w=.ok (.value (v g γ)) w'∧Sat w0 (E' g γ++M') w')
  (hs:∀ γ,semAt ops.toList (VS ops.toList base (vals γ)) i=some (s γ,d)) (hval:∀ γ g,(vals (set g γ))[i]?=some (v g γ))
  (hD:SS ops.toList i D=true) (hmask:∀ γ g,VY D 0 (vals (set g γ))=VY D 0 (vals γ))
  (h:Steps P w0 ops base vals writes mem (ops.toList.drop (i+1)) (i+1)):Steps P w0 ops base vals writes mem (ops.toList.drop i) i:=by
 refine Steps.cons_of (fun o ho S γ w hSi hd hc hMw=>?_) h
 obtain⟨o',h1,h2,h3,h4⟩:=KH (hs γ)
 rw[ho] at h1
 simp only[Option.some.injEq] at h1
 subst h1
 have hd':∀ e:Nat,(Qn ops.toList i).contains e=true→S e=true:=fun e he=>hd e (by unfold Qn at he;rw[ho] at he;simpa using he)
 rw[h2]
 simp only
 unfold V9
 obtain⟨g,w',hr,hM'⟩:=hv γ _ w (hMw.perm (hpre S γ hSi hd' (Vs hSi hc)))
 rw[h3,hr]
 exact⟨set g γ,agree hD hSi hc (hmask γ g),hval γ g,hM'.perm (hpost S γ g hSi hd' (Vs hSi hc))⟩
end
end Go.Eng
namespace Go.Eng
section
variable {P:Program} {ops hd:Array Oper} {Q:Exit→Act→World→Prop} {N:Nat}
end
section
variable {G:Type} {P:Program} {n:Nat} {w0:Ctx} {ops:Array Oper} {base:ZB} {vals:G→List Value} {writes:List Nat} {mem:List Bool→G→Mem}
end
end Go.Eng
end
section
namespace Go.Sky
open Go Go.Eng Go.Proofs
def JB (band:Int):Bool :=
 (decide (band<0))||(decide (band>60000))
set_option maxRecDepth 100000 in
theorem Gl (band:Int) (w:World):Calls Tryz.prog 82 #[.int .i64 band] w (Ret w (.bool (JB band))):=by
 exact Zk (vs:=[.i band]) (w:=w) Tryz.func82 rfl Tryz.ntmps82 rfl (TC.sr (TL.r 1 [] [(2,.b false)] {} (TL.nr (TL.r 3 [] [(5,.b (decide (band<0)))] {} (TL.j 5 (decide (band<0)) 6 [] [] (fun β=>[(8,.b (β||(decide (band>60000))))]) Kr {} {} (TL.r 7 [] [(2,.b ((decide (band<0))||(decide (band>60000))))] {} (TL.next rfl (TC.ret (TE.ret [] (.b ((decide (band<0))||(decide (band>60000)))) {} (by unfold JB;refine eS (fun z=>(.b z:Value)) ?_;exact rfl))))))))))
def JX (a:Int) (b_:Int) (band:Int):Bool :=
 decide ((Q4 (w64 (a-b_)) (w64 (b_-a)))≤band)
set_option maxRecDepth 100000 in
theorem Wt (a:Int) (b_:Int) (band:Int) (w:World):Calls Tryz.prog 145 #[.int .i64 a,.int .i64 b_,.int .i64 band] w (Ret w (.bool (JX a b_ band))):=by
 exact Zk (vs:=[.i a,.i b_,.i band]) (w:=w) Tryz.func145 rfl Tryz.ntmps145 rfl (TC.sr (TL.r 1 [] [(6,.b false)] {} (TL.nr (TL.r 10 [] [(6,.b (decide ((Q4 (w64 (a-b_)) (w64 (b_-a)))≤band)))] {} (TL.next rfl (TC.ret (TE.ret [] (.b (decide ((Q4 (w64 (a-b_)) (w64 (b_-a)))≤band))) {} (by unfold JX;refine eS (fun z=>(.b z:Value)) ?_;exact rfl))))))))
def Jw (a:Za) (b_:Za) (band:Int):Bool :=
 cond (a.Track.Time==b_.Track.Time) (
  let r1:=ZV a.Track.At b_.Track.At (w64 (a.Track.Radius+b_.Track.Radius))
  cond r1 (
   let r2:=JX a.Track.Height b_.Track.Height band
   cond r2 (
    cond (a.Track.Code==b_.Track.Code) (
     true) (
     cond (a.Track.Code==(-1)) (
      true) (
      b_.Track.Code==(-1)))) (
    false)) (
   false)) (
  false)
set_option maxRecDepth 100000 in
theorem FP (a:Za) (b_:Za) (band:Int) (w:World):Calls Tryz.prog 158 #[Za.v a,Za.v b_,.int .i64 band] w (Ret w (.bool (Jw a b_ band))):=by
 refine Zk (vs:=[Za.v a,Za.v b_,.i band]) (w:=w) Tryz.func158 rfl Tryz.ntmps158 rfl (TC.sr (TL.nw 3 (fun b1=>.p0 b1) (fun b1=>Bk b1 (Za.c a) 44) (fun b1=>{}) (fun b1=>TL.nw 4 (fun b2=>.p0 b2) (fun b2=>Bk b2 (Za.c b_) 44) (fun b2=>{}) (fun b2=>TL.r 3 [] [(6,.b false)] {} (TL.ns ?_)))))
 let Mr1_:Mem:=[Bk b2 (Za.c b_) 44,Bk b1 (Za.c a) 44]
 refine TC.plan (G:=Nat×Nat) (base:=[(2,.i band),(3,.p0 b1),(4,.p0 b2)]) (vals:=fun γ=>[.p0 b1,Track.v a.Track,.p0 b2,Track.v b_.Track,.p0 γ.1,.p0 γ.2,undef,undef]) (writes:=[4,5,6,7]) (mem:=fun bs γ=>match bs with | [x4_,x5_,x6_,x7_]=>(bif x6_ then [Bk γ.1 (Track.c a.Track) 40] else bif x4_ then [Bk γ.1 (Track.c Track.zero) 40] else [])++((bif x7_ then [Bk γ.2 (Track.c b_.Track) 40] else bif x5_ then [Bk γ.2 (Track.c Track.zero) 40] else [])++(Mr1_))|_=>[]) (0,0) (fun γ=>[(2,.i band),(7,.p0 γ.1),(8,.p0 γ.2)]) Kr Kr Kr Kr Kr (fun γ=>Kr) (fun _ hM=>hM) (fun γ=>Kr) ?_ ?_
 ·skip
  exact Steps.run (i:=0) 4 [0,1,0,0] Mr1_ Kr Kr (fun S (γ:Nat×Nat) w hM=>by rw[mS4 rfl rfl rfl rfl] at hM;exact hM.sub (Zl (Zl (List.Sublist.refl _)))) Kr (fun (γ:Nat×Nat)=>{}) (Steps.op (i:=4) (Γ:=Nat) (fun g (γ:Nat×Nat)=>(g,γ.2)) (fun _=>[]) (fun b (γ:Nat×Nat)=>[Bk b (Track.c Track.zero) 40]) (fun S (γ:Nat×Nat)=>(bif S 7 then [Bk γ.2 (Track.c b_.Track) 40] else bif S 5 then [Bk γ.2 (Track.c Track.zero) 40] else [])++(Mr1_)) [4,6,7] (fun (γ:Nat×Nat)=>sV (Instr.alloc 40 true (.tuple #[]))) (some 7) (fun b (γ:Nat×Nat)=>.p0 b) (fun S (γ:Nat×Nat) hj hd hl=>by rw[mS4 hj rfl (hl 6 Kr) rfl];exact List.Perm.refl _) (fun S (γ:Nat×Nat) g hl=>by rw[mS4 (S:=upS S 4) (a0:=4) (a1:=5) (a2:=6) (a3:=7) rfl rfl (hl 6 Kr) rfl];exact(List.Perm.refl _).symm) (fun (γ:Nat×Nat) M' w hM=>Qd (v:=fun b=>.p0 b) (fun b M=>Kr) M' w hM) (fun (γ:Nat×Nat)=>Kr) (fun (γ:Nat×Nat) g=>Kr) Kr (fun (γ:Nat×Nat) g=>Kr) (Steps.op (i:=5) (Γ:=Nat) (fun g (γ:Nat×Nat)=>(γ.1,g)) (fun _=>[]) (fun b (γ:Nat×Nat)=>[Bk b (Track.c Track.zero) 40]) (fun S (γ:Nat×Nat)=>(bif S 6 then [Bk γ.1 (Track.c a.Track) 40] else bif S 4 then [Bk γ.1 (Track.c Track.zero) 40] else [])++(Mr1_)) [5,6,7] (fun (γ:Nat×Nat)=>sV (Instr.alloc 40 true (.tuple #[]))) (some 8) (fun b (γ:Nat×Nat)=>.p0 b) (fun S (γ:Nat×Nat) hj hd hl=>by rw[mS4 rfl hj rfl (hl 7 Kr)];exact(List.Perm.append_left _ (List.Perm.refl _)).trans (ZP _ _ _)) (fun S (γ:Nat×Nat) g hl=>by rw[mS4 (S:=upS S 5) (a0:=4) (a1:=5) (a2:=6) (a3:=7) rfl rfl rfl (hl 7 Kr)];exact((List.Perm.append_left _ (List.Perm.refl _)).trans (ZP _ _ _)).symm) (fun (γ:Nat×Nat) M' w hM=>Qd (v:=fun b=>.p0 b) (fun b M=>Kr) M' w hM) (fun (γ:Nat×Nat)=>Kr) (fun (γ:Nat×Nat) g=>Kr) Kr (fun (γ:Nat×Nat) g=>Kr) (Steps.put (i:=6) (fun (γ:Nat×Nat)=>[Bk γ.1 (Track.c Track.zero) 40]) (fun (γ:Nat×Nat)=>[Bk γ.1 (Track.c a.Track) 40]) (fun S (γ:Nat×Nat)=>(bif S 7 then [Bk γ.2 (Track.c b_.Track) 40] else bif S 5 then [Bk γ.2 (Track.c Track.zero) 40] else [])++(Mr1_)) (fun (γ:Nat×Nat)=>sU (Instr.storeAt 40 (.p0 γ.1) (Track.v a.Track))) none (fun S (γ:Nat×Nat) hj hd hl=>by rw[mS4 (hd 4 Kr) rfl hj rfl];exact List.Perm.refl _) (fun S (γ:Nat×Nat) _=>(List.Perm.refl _).symm) (fun (γ:Nat×Nat) M' w hM=>QD (fun b M=>Kr) (fun b M=>Kr) M' w hM) (fun (γ:Nat×Nat)=>Kr) (fun (γ:Nat×Nat)=>Kr) (Steps.put (i:=7) (fun (γ:Nat×Nat)=>[Bk γ.2 (Track.c Track.zero) 40]) (fun (γ:Nat×Nat)=>[Bk γ.2 (Track.c b_.Track) 40]) (fun S (γ:Nat×Nat)=>(bif S 6 then [Bk γ.1 (Track.c a.Track) 40] else bif S 4 then [Bk γ.1 (Track.c Track.zero) 40] else [])++(Mr1_)) (fun (γ:Nat×Nat)=>sU (Instr.storeAt 40 (.p0 γ.2) (Track.v b_.Track))) none (fun S (γ:Nat×Nat) hj hd hl=>by rw[mS4 rfl (hd 5 Kr) rfl hj];exact(List.Perm.append_left _ (List.Perm.refl _)).trans (ZP _ _ _)) (fun S (γ:Nat×Nat) _=>((List.Perm.append_left _ (List.Perm.refl _)).trans (ZP _ _ _)).symm) (fun (γ:Nat×Nat) M' w hM=>QD (fun b M=>Kr) (fun b M=>Kr) M' w hM) (fun (γ:Nat×Nat)=>Kr) (fun (γ:Nat×Nat)=>Kr) (Steps.done Kr)))))
 ·rintro⟨b3,b4⟩
  refine TE.conv [Bk b3 (Track.c a.Track) 40,Bk b4 (Track.c b_.Track) 40,Bk b2 (Za.c b_) 44,Bk b1 (Za.c a) 44] (fun _ hM=>hM) (TE.nr (TL.r 6 [0,1] [(18,.b (a.Track.Time==b_.Track.Time))] {} (TL.split 18 (a.Track.Time==b_.Track.Time) Kr (fun h1=>?_) (fun h1=>?_))))
  ·refine TL.r 15 [0,1,0,1] [(20,P.v a.Track.At),(22,P.v b_.Track.At),(27,.i (w64 (a.Track.Radius+b_.Track.Radius)))] {} (TL.c 28 (ZV a.Track.At b_.Track.At (w64 (a.Track.Radius+b_.Track.Radius))) (fun r1=>.b r1) (fun w _=>Jp a.Track.At b_.Track.At (w64 (a.Track.Radius+b_.Track.Radius)) w) {} (fun r1 hr1=>TL.r 18 [] [(30,.b r1)] {} (TL.split 30 r1 Kr (fun h2=>?_) (fun h2=>?_))))
   ·refine TL.r 23 [0,1] [(32,.i a.Track.Height),(34,.i b_.Track.Height),(35,.i band)] {} (TL.c 36 (JX a.Track.Height b_.Track.Height band) (fun r2=>.b r2) (fun w _=>Wt a.Track.Height b_.Track.Height band w) {} (fun r2 hr2=>TL.r 26 [] [(38,.b r2)] {} (TL.split 38 r2 Kr (fun h3=>?_) (fun h3=>?_))))
    ·refine TL.r 32 [0,1] [(44,.b (a.Track.Code==b_.Track.Code))] {} (TL.split 44 (a.Track.Code==b_.Track.Code) Kr (fun h4=>?_) (fun h4=>?_))
     ·exact TL.r 43 [] [(6,.b true)] {} (TL.next rfl (TC.ret (TE.ret [] (.b true) {} (by unfold Jw;refine eS (fun z=>(.b z:Value)) ?_;subst hr1 hr2;exact Zj h1 (Zj h2 (Zj h3 (Zj h4 (rfl))))))))
     ·refine TL.r 37 [0] [(49,.b (a.Track.Code==(-1)))] {} (TL.split 49 (a.Track.Code==(-1)) Kr (fun h5=>?_) (fun h5=>?_))
      ·exact TL.r 43 [] [(6,.b true)] {} (TL.next rfl (TC.ret (TE.ret [] (.b true) {} (by unfold Jw;refine eS (fun z=>(.b z:Value)) ?_;subst hr1 hr2;exact Zj h1 (Zj h2 (Zj h3 (Zb h4 (Zj h5 (rfl)))))))))
      ·exact TL.r 43 [1] [(6,.b (b_.Track.Code==(-1)))] {} (TL.next rfl (TC.ret (TE.ret [] (.b (b_.Track.Code==(-1))) {} (by unfold Jw;refine eS (fun z=>(.b z:Value)) ?_;subst hr1 hr2;exact Zj h1 (Zj h2 (Zj h3 (Zb h4 (Zb h5 (rfl)))))))))
    ·exact TL.r 43 [] [(6,.b false)] {} (TL.next rfl (TC.ret (TE.ret [] (.b false) {} (by unfold Jw;refine eS (fun z=>(.b z:Value)) ?_;subst hr1 hr2;exact Zj h1 (Zj h2 (Zb h3 (rfl)))))))
   ·exact TL.r 43 [] [(6,.b false)] {} (TL.next rfl (TC.ret (TE.ret [] (.b false) {} (by unfold Jw;refine eS (fun z=>(.b z:Value)) ?_;subst hr1;exact Zj h1 (Zb h2 (rfl))))))
  ·exact TL.r 43 [] [(6,.b false)] {} (TL.next rfl (TC.ret (TE.ret [] (.b false) {} (by unfold Jw;refine eS (fun z=>(.b z:Value)) ?_;exact Zb h1 (rfl)))))
def Kv (i:Int) (k:Int) (x:List Za):Bool :=
 let r1:=cmp_Compare_int (((x[i.toNat]?.getD Za.zero).Track).Radius) (((x[k.toNat]?.getD Za.zero).Track).Radius)
 let r2:=cmp_Compare_int (((x[k.toNat]?.getD Za.zero).Track).Hits) (((x[i.toNat]?.getD Za.zero).Track).Hits)
 let r3:=cmp_Compare_int (((x[i.toNat]?.getD Za.zero).Track).ID) (((x[k.toNat]?.getD Za.zero).Track).ID)
 let r4:=cmp_Compare_int i k
 let r5:=QZ ([r1,r2,r3,r4])
 decide (r5<0)
set_option maxRecDepth 100000 in
theorem W3 (i:Int) (k:Int) (a_x:Addr) (A_x:Option Addr) (c_x:Nat) (x:List Za) (w:World) (h_x:Rd w 1 (some a_x) [Sl.c (⟨A_x,c_x,x⟩:Sl Za)]) (hd_x:(⟨A_x,c_x,x⟩:Sl Za).rd w 20 Za.c) (hi:0≤i∧i<(x.length:Int)) (hk:0≤k∧k<(x.length:Int)):Calls Tryz.prog 157 #[.int .i64 i,.int .i64 k,.pointer (some a_x)] w (Ret w (.bool (Kv i k x))):=by
 refine Zk (vs:=[.i i,.i k,.pointer (some a_x)]) (w:=w) Tryz.func157 rfl Tryz.ntmps157 rfl (TC.sr (TL.r 1 [] [(5,.b false)] {} (TL.ns (TC.plan (G:=Nat×Nat) (base:=[(0,.i i),(1,.i k),(2,.pointer (some a_x))]) (vals:=fun γ=>[.slice A_x x.length c_x,.i i,.pointer (some (Ix A_x (i.toNat*20))),.pointer (some (Ix A_x (i.toNat*20))),Track.v ((x[i.toNat]?.getD Za.zero).Track),.slice A_x x.length c_x,.i k,.pointer (some (Ix A_x (k.toNat*20))),.pointer (some (Ix A_x (k.toNat*20))),Track.v ((x[k.toNat]?.getD Za.zero).Track),.p0 γ.1,.p0 γ.2,undef,undef]) (writes:=[10,11,12,13]) (mem:=fun bs γ=>match bs with | [x10_,x11_,x12_,x13_]=>(bif x12_ then [Bk γ.1 (Track.c ((x[i.toNat]?.getD Za.zero).Track)) 40] else bif x10_ then [Bk γ.1 (Track.c Track.zero) 40] else [])++((bif x13_ then [Bk γ.2 (Track.c ((x[k.toNat]?.getD Za.zero).Track)) 40] else bif x11_ then [Bk γ.2 (Track.c Track.zero) 40] else [])++([]))|_=>[]) (0,0) (fun γ=>[(0,.i i),(1,.i k),(6,.p0 γ.1),(7,.p0 γ.2)]) Kr Kr Kr Kr Kr (fun γ=>Kr) (fun _ hM=>hM) (fun γ=>Kr) ?_ ?_))))
 ·skip
  exact Steps.val (i:=0) (fun (γ:Nat×Nat)=>sV (Instr.loadAt 31 (.pointer (some a_x)))) (some 8) (fun (γ:Nat×Nat)=>.slice A_x x.length c_x) (fun _=>[]) Kr (fun S (γ:Nat×Nat) w _ hM=>by rw[mS4 rfl rfl rfl rfl] at hM;exact hM.sub (Zl (Zl (List.Sublist.refl _)))) (fun (γ:Nat×Nat) w hM=>Zs (off:=0) (.slice A_x x.length c_x) (h_x.sat hM) (Xv _) Kr Kr) (fun (γ:Nat×Nat)=>Kr) (fun (γ:Nat×Nat)=>Kr) (Steps.run (i:=1) 2 [0] [] Kr Kr (fun S (γ:Nat×Nat) w hM=>by rw[mS4 rfl rfl rfl rfl] at hM;exact hM.sub (Zl (Zl (List.Sublist.refl _)))) Kr (fun (γ:Nat×Nat)=>{}) (Steps.val (i:=2) (fun (γ:Nat×Nat)=>sV (Instr.indexAt 31 (.slice A_x x.length c_x) (.i i))) (some 10) (fun (γ:Nat×Nat)=>.pointer (some (Ix A_x (i.toNat*20)))) (fun _=>[]) Kr (fun S (γ:Nat×Nat) w _ hM=>by rw[mS4 rfl rfl rfl rfl] at hM;exact hM.sub (Zl (Zl (List.Sublist.refl _)))) (fun (γ:Nat×Nat) w hM=>Zp (hd_x.rd.sat hM) (by simp) Kr sd sd) (fun (γ:Nat×Nat)=>Kr) (fun (γ:Nat×Nat)=>Kr) (Steps.run (i:=3) 4 [0] [] Kr Kr (fun S (γ:Nat×Nat) w hM=>by rw[mS4 rfl rfl rfl rfl] at hM;exact hM.sub (Zl (Zl (List.Sublist.refl _)))) Kr (fun (γ:Nat×Nat)=>{}) (Steps.val (i:=4) (fun (γ:Nat×Nat)=>sV (Instr.loadAt 40 (.pointer (some (Ix A_x (i.toNat*20)))))) (some 12) (fun (γ:Nat×Nat)=>Track.v ((x[i.toNat]?.getD Za.zero).Track)) (fun _=>[]) Kr (fun S (γ:Nat×Nat) w _ hM=>by rw[mS4 rfl rfl rfl rfl] at hM;exact hM.sub (Zl (Zl (List.Sublist.refl _)))) (fun (γ:Nat×Nat) w hM=>Z6 (n:=13) (off:=0) (i:=i.toNat) (Track.v ((x[i.toNat]?.getD Za.zero).Track)) (hd_x.rd.sat hM) (Z8 (getD_at _ _ Za.zero sd)) Kr Kr Kr) (fun (γ:Nat×Nat)=>Kr) (fun (γ:Nat×Nat)=>Kr) (Steps.val (i:=5) (fun (γ:Nat×Nat)=>sV (Instr.loadAt 31 (.pointer (some a_x)))) (some 13) (fun (γ:Nat×Nat)=>.slice A_x x.length c_x) (fun _=>[]) Kr (fun S (γ:Nat×Nat) w _ hM=>by rw[mS4 rfl rfl rfl rfl] at hM;exact hM.sub (Zl (Zl (List.Sublist.refl _)))) (fun (γ:Nat×Nat) w hM=>Zs (off:=0) (.slice A_x x.length c_x) (h_x.sat hM) (Xv _) Kr Kr) (fun (γ:Nat×Nat)=>Kr) (fun (γ:Nat×Nat)=>Kr) (Steps.run (i:=6) 7 [0] [] Kr Kr (fun S (γ:Nat×Nat) w hM=>by rw[mS4 rfl rfl rfl rfl] at hM;exact hM.sub (Zl (Zl (List.Sublist.refl _)))) Kr (fun (γ:Nat×Nat)=>{}) (Steps.val (i:=7) (fun (γ:Nat×Nat)=>sV (Instr.indexAt 31 (.slice A_x x.length c_x) (.i k))) (some 15) (fun (γ:Nat×Nat)=>.pointer (some (Ix A_x (k.toNat*20)))) (fun _=>[]) Kr (fun S (γ:Nat×Nat) w _ hM=>by rw[mS4 rfl rfl rfl rfl] at hM;exact hM.sub (Zl (Zl (List.Sublist.refl _)))) (fun (γ:Nat×Nat) w hM=>Zp (hd_x.rd.sat hM) (by simp) Kr sd sd) (fun (γ:Nat×Nat)=>Kr) (fun (γ:Nat×Nat)=>Kr) (Steps.run (i:=8) 9 [0] [] Kr Kr (fun S (γ:Nat×Nat) w hM=>by rw[mS4 rfl rfl rfl rfl] at hM;exact hM.sub (Zl (Zl (List.Sublist.refl _)))) Kr (fun (γ:Nat×Nat)=>{}) (Steps.val (i:=9) (fun (γ:Nat×Nat)=>sV (Instr.loadAt 40 (.pointer (some (Ix A_x (k.toNat*20)))))) (some 17) (fun (γ:Nat×Nat)=>Track.v ((x[k.toNat]?.getD Za.zero).Track)) (fun _=>[]) Kr (fun S (γ:Nat×Nat) w _ hM=>by rw[mS4 rfl rfl rfl rfl] at hM;exact hM.sub (Zl (Zl (List.Sublist.refl _)))) (fun (γ:Nat×Nat) w hM=>Z6 (n:=13) (off:=0) (i:=k.toNat) (Track.v ((x[k.toNat]?.getD Za.zero).Track)) (hd_x.rd.sat hM) (Z8 (getD_at _ _ Za.zero sd)) Kr Kr Kr) (fun (γ:Nat×Nat)=>Kr) (fun (γ:Nat×Nat)=>Kr) (Steps.op (i:=10) (Γ:=Nat) (fun g (γ:Nat×Nat)=>(g,γ.2)) (fun _=>[]) (fun b (γ:Nat×Nat)=>[Bk b (Track.c Track.zero) 40]) (fun S (γ:Nat×Nat)=>(bif S 13 then [Bk γ.2 (Track.c ((x[k.toNat]?.getD Za.zero).Track)) 40] else bif S 11 then [Bk γ.2 (Track.c Track.zero) 40] else [])++([])) [10,12,13] (fun (γ:Nat×Nat)=>sV (Instr.alloc 40 true (.tuple #[]))) (some 6) (fun b (γ:Nat×Nat)=>.p0 b) (fun S (γ:Nat×Nat) hj hd hl=>by rw[mS4 hj rfl (hl 12 Kr) rfl];exact List.Perm.refl _) (fun S (γ:Nat×Nat) g hl=>by rw[mS4 (S:=upS S 10) (a0:=10) (a1:=11) (a2:=12) (a3:=13) rfl rfl (hl 12 Kr) rfl];exact(List.Perm.refl _).symm) (fun (γ:Nat×Nat) M' w hM=>Qd (v:=fun b=>.p0 b) (fun b M=>Kr) M' w hM) (fun (γ:Nat×Nat)=>Kr) (fun (γ:Nat×Nat) g=>Kr) Kr (fun (γ:Nat×Nat) g=>Kr) (Steps.op (i:=11) (Γ:=Nat) (fun g (γ:Nat×Nat)=>(γ.1,g)) (fun _=>[]) (fun b (γ:Nat×Nat)=>[Bk b (Track.c Track.zero) 40]) (fun S (γ:Nat×Nat)=>(bif S 12 then [Bk γ.1 (Track.c ((x[i.toNat]?.getD Za.zero).Track)) 40] else bif S 10 then [Bk γ.1 (Track.c Track.zero) 40] else [])++([])) [11,12,13] (fun (γ:Nat×Nat)=>sV (Instr.alloc 40 true (.tuple #[]))) (some 7) (fun b (γ:Nat×Nat)=>.p0 b) (fun S (γ:Nat×Nat) hj hd hl=>by rw[mS4 rfl hj rfl (hl 13 Kr)];exact(List.Perm.append_left _ (List.Perm.refl _)).trans (ZP _ _ _)) (fun S (γ:Nat×Nat) g hl=>by rw[mS4 (S:=upS S 11) (a0:=10) (a1:=11) (a2:=12) (a3:=13) rfl rfl rfl (hl 13 Kr)];exact((List.Perm.append_left _ (List.Perm.refl _)).trans (ZP _ _ _)).symm) (fun (γ:Nat×Nat) M' w hM=>Qd (v:=fun b=>.p0 b) (fun b M=>Kr) M' w hM) (fun (γ:Nat×Nat)=>Kr) (fun (γ:Nat×Nat) g=>Kr) Kr (fun (γ:Nat×Nat) g=>Kr) (Steps.put (i:=12) (fun (γ:Nat×Nat)=>[Bk γ.1 (Track.c Track.zero) 40]) (fun (γ:Nat×Nat)=>[Bk γ.1 (Track.c ((x[i.toNat]?.getD Za.zero).Track)) 40]) (fun S (γ:Nat×Nat)=>(bif S 13 then [Bk γ.2 (Track.c ((x[k.toNat]?.getD Za.zero).Track)) 40] else bif S 11 then [Bk γ.2 (Track.c Track.zero) 40] else [])++([])) (fun (γ:Nat×Nat)=>sU (Instr.storeAt 40 (.p0 γ.1) (Track.v ((x[i.toNat]?.getD Za.zero).Track)))) none (fun S (γ:Nat×Nat) hj hd hl=>by rw[mS4 (hd 10 Kr) rfl hj rfl];exact List.Perm.refl _) (fun S (γ:Nat×Nat) _=>(List.Perm.refl _).symm) (fun (γ:Nat×Nat) M' w hM=>QD (fun b M=>Kr) (fun b M=>Kr) M' w hM) (fun (γ:Nat×Nat)=>Kr) (fun (γ:Nat×Nat)=>Kr) (Steps.put (i:=13) (fun (γ:Nat×Nat)=>[Bk γ.2 (Track.c Track.zero) 40]) (fun (γ:Nat×Nat)=>[Bk γ.2 (Track.c ((x[k.toNat]?.getD Za.zero).Track)) 40]) (fun S (γ:Nat×Nat)=>(bif S 12 then [Bk γ.1 (Track.c ((x[i.toNat]?.getD Za.zero).Track)) 40] else bif S 10 then [Bk γ.1 (Track.c Track.zero) 40] else [])++([])) (fun (γ:Nat×Nat)=>sU (Instr.storeAt 40 (.p0 γ.2) (Track.v ((x[k.toNat]?.getD Za.zero).Track)))) none (fun S (γ:Nat×Nat) hj hd hl=>by rw[mS4 rfl (hd 11 Kr) rfl hj];exact(List.Perm.append_left _ (List.Perm.refl _)).trans (ZP _ _ _)) (fun S (γ:Nat×Nat) _=>((List.Perm.append_left _ (List.Perm.refl _)).trans (ZP _ _ _)).symm) (fun (γ:Nat×Nat) M' w hM=>QD (fun b M=>Kr) (fun b M=>Kr) M' w hM) (fun (γ:Nat×Nat)=>Kr) (fun (γ:Nat×Nat)=>Kr) (Steps.done Kr))))))))))))))
 ·rintro⟨b1,b2⟩
  exact TE.conv [Bk b1 (Track.c ((x[i.toNat]?.getD Za.zero).Track)) 40,Bk b2 (Track.c ((x[k.toNat]?.getD Za.zero).Track)) 40] (fun _ hM=>hM) (TE.next (TC.seq (TC.drawTail 18 Kr Kr (TQ.r 4 [0,1] [(19,.i (((x[i.toNat]?.getD Za.zero).Track).Radius)),(21,.i (((x[k.toNat]?.getD Za.zero).Track).Radius))] {} (TQ.c 22 (cmp_Compare_int (((x[i.toNat]?.getD Za.zero).Track).Radius) (((x[k.toNat]?.getD Za.zero).Track).Radius)) (fun r1=>.i r1) (fun w _=>Ya (((x[i.toNat]?.getD Za.zero).Track).Radius) (((x[k.toNat]?.getD Za.zero).Track).Radius) w) rfl {} (fun r1 hr1=>TQ.r 9 [1,0] [(24,.i (((x[k.toNat]?.getD Za.zero).Track).Hits)),(26,.i (((x[i.toNat]?.getD Za.zero).Track).Hits))] {} (TQ.c 27 (cmp_Compare_int (((x[k.toNat]?.getD Za.zero).Track).Hits) (((x[i.toNat]?.getD Za.zero).Track).Hits)) (fun r2=>.i r2) (fun w _=>Ya (((x[k.toNat]?.getD Za.zero).Track).Hits) (((x[i.toNat]?.getD Za.zero).Track).Hits) w) rfl {} (fun r2 hr2=>TQ.r 14 [0,1] [(29,.i (((x[i.toNat]?.getD Za.zero).Track).ID)),(31,.i (((x[k.toNat]?.getD Za.zero).Track).ID))] {} (TQ.c 32 (cmp_Compare_int (((x[i.toNat]?.getD Za.zero).Track).ID) (((x[k.toNat]?.getD Za.zero).Track).ID)) (fun r3=>.i r3) (fun w _=>Ya (((x[i.toNat]?.getD Za.zero).Track).ID) (((x[k.toNat]?.getD Za.zero).Track).ID) w) rfl {} (fun r3 hr3=>TQ.r 17 [] [(33,.i i),(34,.i k)] {} (TQ.c 35 (cmp_Compare_int i k) (fun r4=>.i r4) (fun w _=>Ya i k w) rfl {} (fun r4 hr4=>TQ.tail rfl (TL.nw 36 (fun b3=>.slice (Pa b3) 4 4) (fun b3=>Bk b3 #[.i r1,.i r2,.i r3,.i r4] 3) (fun b3=>{}) (fun b3=>TL.c 37 (QZ ([r1,r2,r3,r4])) (fun r5=>.i r5) (fun w hM=>VA (Pa b3) 4 ([r1,r2,r3,r4]) w (Rd.lit hM 0 _ rfl Kr Kr Kr) (Nat.le_refl _)) {} (fun r5 hr5=>TL.r 22 [] [(5,.b (decide (r5<0)))] {} (TL.next rfl (TC.ret (TE.ret [] (.b (decide (r5<0))) {} (by unfold Kv;refine eS (fun z=>(.b z:Value)) ?_;subst hr1 hr2 hr3 hr4 hr5;exact rfl)))))))))))))))))))
def QS:List Za→Nat→((Unit) ⊕ ((List Za)×Int))
 | [],_=>.inl ()
 | x::xs,k=>let r1:=Zu x
  cond (r1 != 0) (
   .inr ([],r1)) (
   QS xs (k+1))
def XH (l:List Za) (band:Int) (k_2:Nat) (x_2:Za):List Za→Nat→Bool→Bool
 | [],_,keep=>keep
 | x_3::xs,k_3,keep=>cond ((k_3:Int) != (k_2:Int)) (
   let r3:=Jw x_2 x_3 band
   cond ((r3&&(x_2.Track.Code==x_3.Track.Code))&&(x_2.Track.Code != (-1))) (
    let r4:=Kv (k_3:Int) (k_2:Int) l
    cond r4 (
     XH l band k_2 x_2 xs (k_3+1) false) (
     XH l band k_2 x_2 xs (k_3+1) keep)) (
    XH l band k_2 x_2 xs (k_3+1) keep)) (
   XH l band k_2 x_2 xs (k_3+1) keep)
def XV (l:List Za) (band:Int):List Za→Nat→(List Za)→(List Za)
 | [],_,out=>out
 | x_2::xs,k_2,out=>Y6 (XH l band k_2 x_2 l 0 true) (fun keep_2 =>
   cond keep_2 (
    XV l band xs (k_2+1) (out++([x_2]))) (
    XV l band xs (k_2+1) out))
def Xg (l:List Za) (band:Int):List Za×Int :=
 cond (decide ((l.length:Int)>32)) (
  ([],2)) (
  Sum.elim (fun _ =>
   let r2:=JB band
   cond r2 (
    ([],4)) (
    Y6 (XV l band l 0 ([]:List Za)) (fun out_2 =>
     (out_2,0)))) (fun r=>r) (QS l 0))
set_option maxHeartbeats 4000000 in
set_option maxRecDepth 100000 in
theorem Be (A_l:Option Addr) (c_l:Nat) (l:List Za) (band:Int) (w:World) (h_l:Rd w 20 A_l (l.map Za.c)) (hc_l:l.length≤c_l):Calls Tryz.prog 114 #[.slice A_l l.length c_l,.int .i64 band] w (QW (Γ:=(Option Addr×Nat)) (cx w) (fun g=>.tuple #[.slice g.1 ((Xg l band).1.length) g.2,.int .i64 ((Xg l band).2)]) (fun g=>[.inr (Own g.1 g.2 44 20 (((Xg l band).1).map Za.c))])):=by
 have s_l:=h_l.short;rw[List.length_map] at s_l
 refine Zk (vs:=[.slice A_l l.length c_l,.i band]) (w:=w) Tryz.func114 rfl Tryz.ntmps114 rfl (TC.sr (TL.nw 2 (fun b1=>.p0 b1) (fun b1=>Bk b1 #[.slice A_l l.length c_l] 31) (fun b1=>{}) (fun b1=>TL.r 3 [] [(4,.slice none 0 0),(5,.i 0)] {} (TL.ns (TC.sr (TL.r 3 [0] [(18,.b (decide ((l.length:Int)>32)))] {} (TL.next rfl (TC.cond (decide ((l.length:Int)>32)) rfl Kr (fun h1=>?_) (fun h1=>?_)))))))))
 ·refine TC.sr (TL.r 2 [] [(4,.slice none 0 0),(5,.i 2)] {} (TL.next rfl (TC.ret (TE.rt ?_))))
  have e:Xg l band=([],2):=by unfold Xg;exact Zj h1 (rfl)
  refine TE.conv [Ow none 0 44 20 (([]:List Za).map Za.c),Bk b1 #[.slice A_l l.length c_l] 31] (fun _ hM=>hM.emptyrow none 44 20) ?_
  rw[e]
  exact TE.retM (.inl rfl) (none,0) [] (.tuple #[.slice none 0 0,.i 2]) {} rfl (fun _ hM=>hM.sub (sb 1))
 ·have q1_0:=(Zq h1)
  refine TC.sn (TC.seq (TC.sr (TL.r 3 [0] [(19,.slice A_l l.length c_l),(20,.i (l.length:Int)),(21,.i 0)] {} (TL.next rfl ?_))))
  obtain⟨R2,hR⟩:∃ R,R=QS l 0:=⟨_,rfl⟩
  refine TC.cut (S:=Unit) (fun (_:Unit)=>[(1,.i band),(2,.p0 b1)]) (fun (_:Unit)=>[Bk b1 #[.slice A_l l.length c_l] 31]) (fun (_:Unit)=>R2=.inl ()) ?_ ?_
  ·refine TC.block (TC.lw (X:=Nat) (fun k=>[(1,.i band),(2,.p0 b1),(19,.slice A_l l.length c_l),(20,.i (l.length:Int)),(21,.i (k:Int))]) (fun k=>[Bk b1 #[.slice A_l l.length c_l] 31]) (fun k=>l.length-k) (fun k=>k≤l.length∧R2=QS (l.drop k) k) ?_ 0 ⟨Nat.zero_le _,hR⟩ Kr (sb 1))
   rintro k ⟨hk,hI⟩
   refine TC.sr (TL.r 1 [] [(22,.b (decide ((k:Int)<(l.length:Int))))] {} (TL.ns (TC.cond (decide ((k:Int)<(l.length:Int))) rfl Kr (fun h2=>?_) (fun h2=>?_))))
   ·have hlt:=ltN h2
    obtain⟨x,hx⟩:=elN hlt
    have hd:=drop_at hx
    refine TC.sn (TC.seq (TC.block (TC.sr (TL.v (sV (Instr.indexAt 31 (.slice A_l l.length c_l) (.i (k:Int)))) 23 (.pointer (some (Ix A_l (k*20)))) (fun w hM=>Zp (h_l.sat hM) (by simp) Kr sd sd) {} (TL.v (sV (Instr.loadAt 44 (.pointer (some (Ix A_l (k*20)))))) 24 (Za.v x) (fun w hM=>Z6 (n:=20) (off:=0) (i:=k) (Za.v x) (h_l.sat hM) (Z8 hx) Kr Kr Kr) {} (TL.nw 7 (fun b2=>.p0 b2) (fun b2=>Bk b2 (Za.c Za.zero) 44) (fun b2=>{}) (fun b2=>TL.s 0 (Bk b2 (Za.c x) 44) (fun _=>{}) (TL.nr (TL.r 1 [0] [(25,Za.v x)] {} (TL.c 26 (Zu x) (fun r1=>.i r1) (fun w _=>XG x w) {} (fun r1 hr1=>TL.r 3 [] [(8,.i r1)] {} (TL.nr (TL.r 2 [] [(28,.b (r1 != 0))] {} (TL.next rfl (TC.cond (r1 != 0) rfl Kr (fun h3=>?_) (fun h3=>?_))))))))))))))))
    ·refine TC.sr (TL.r 3 [] [(4,.slice none 0 0),(5,.i r1)] {} (TL.next rfl (TC.ret (TE.rb (TE.rt (TE.rt (TE.rb (TE.rt (TE.rt ?_)))))))))
     have e:Xg l band=([],r1):=by subst hr1;unfold Xg;exact Zb h1 (X3 (hR.symm.trans (hI.trans (by rw[hd];exact Zj h3 (rfl)))) rfl)
     refine TE.conv [Ow none 0 44 20 (([]:List Za).map Za.c),Bk b2 (Za.c x) 44,Bk b1 #[.slice A_l l.length c_l] 31] (fun _ hM=>hM.emptyrow none 44 20) ?_
     rw[e]
     exact TE.retM (.inl rfl) (none,0) [] (.tuple #[.slice none 0 0,.i r1]) {} rfl (fun _ hM=>hM.sub (sb 1))
    ·have q3_0:=(QQ h3)
     exact TC.skip (TE.nb (TE.next (TC.region (TL.r 2 [] [(21,.i (w64 ((k:Int)+1)))] {} (TL.done rfl (TE.rw 21 (.i (w64 ((k:Int)+1))) (.i ((k+1:Nat):Int)) Kr (ZF k (by omega)) (TE.again (x:=k) (k+1) ⟨by omega,hI.trans (by subst hr1;rw[hd];exact Zb h3 (rfl))⟩ (mN hlt) Kr (sb 2))))))))
   ·have hd:=Qc h2
    refine TC.exit (TE.et (TE.et (TE.exit_same ?_)))
    exact TE.cut () (hI.trans (by rw[hd];exact rfl)) Kr (sb 1)
  ·intro _ hJ
   refine TE.next (TC.seq (TC.sr (TL.r 1 [] [(31,.i band)] {} (TL.c 32 (JB band) (fun r2=>.b r2) (fun w _=>Gl band w) {} (fun r2 hr2=>TL.next rfl (TC.cond r2 rfl Kr (fun h4=>?_) (fun h4=>?_)))))))
   ·refine TC.sr (TL.r 2 [] [(4,.slice none 0 0),(5,.i 4)] {} (TL.next rfl (TC.ret (TE.rt ?_))))
    have e:Xg l band=([],4):=by subst hr2;unfold Xg;exact Zb h1 (Xk (hR.symm.trans hJ) (Zj h4 (rfl)))
    refine TE.conv [Ow none 0 44 20 (([]:List Za).map Za.c),Bk b1 #[.slice A_l l.length c_l] 31] (fun _ hM=>hM.emptyrow none 44 20) ?_
    rw[e]
    exact TE.retM (.inl rfl) (none,0) [] (.tuple #[.slice none 0 0,.i 4]) {} rfl (fun _ hM=>hM.sub (sb 1))
   ·refine TC.snr (TL.r 2 [] [(9,.func (.func 157) #[] #[.p0 b1])] {} (TL.nr (TL.r 1 [] [(10,.slice none 0 0)] {} (TL.ns (TC.sr (TL.r 3 [0] [(34,.slice A_l l.length c_l),(35,.i (l.length:Int)),(36,.i 0)] {} (TL.next rfl (TC.conv [Ow none 0 44 20 (([]:List Za).map Za.c),Bk b1 #[.slice A_l l.length c_l] 31] (fun _ hM=>hM.emptyrow none 44 20) ?_))))))))
    obtain⟨R6,hR_2⟩:∃ R,R=XV l band l 0 ([]:List Za):=⟨_,rfl⟩
    refine TC.cut (S:=(List Za)×(Option Addr)×Nat) (fun (out_2,A_out_2,c_out_2)=>[(10,.slice A_out_2 out_2.length c_out_2)]) (fun (out_2,A_out_2,c_out_2)=>[Ow A_out_2 c_out_2 44 20 (out_2.map Za.c)]) (fun (out_2,A_out_2,c_out_2)=>R6=out_2∧out_2.length≤l.length) ?_ ?_
    ·refine TC.block (TC.lw (X:=Nat×(List Za)×(Option Addr)×Nat) (fun (k_2,out,A_out,c_out)=>[(1,.i band),(2,.p0 b1),(9,.func (.func 157) #[] #[.p0 b1]),(10,.slice A_out out.length c_out),(34,.slice A_l l.length c_l),(35,.i (l.length:Int)),(36,.i (k_2:Int))]) (fun (k_2,out,A_out,c_out)=>[Ow A_out c_out 44 20 (out.map Za.c),Bk b1 #[.slice A_l l.length c_l] 31]) (fun (k_2,out,A_out,c_out)=>l.length-k_2) (fun (k_2,out,A_out,c_out)=>k_2≤l.length∧R6=XV l band (l.drop k_2) k_2 out∧out.length≤k_2) ?_ (0,([]:List Za),none,0) ⟨Nat.zero_le _,hR_2,sz⟩ Kr (sb 3))
     rintro⟨k_2,out,A_out,c_out⟩ ⟨hk_2,hI_2,hl_out⟩
     refine TC.sr (TL.r 1 [] [(37,.b (decide ((k_2:Int)<(l.length:Int))))] {} (TL.ns (TC.cond (decide ((k_2:Int)<(l.length:Int))) rfl Kr (fun h5=>?_) (fun h5=>?_))))
     ·have hlt_2:=ltN h5
      obtain⟨x_2,hx_2⟩:=elN hlt_2
      have hd_2:=drop_at hx_2
      refine TC.sn (TC.seq (TC.block (TC.sr (TL.r 1 [] [(38,.i (k_2:Int))] {} (TL.v (sV (Instr.indexAt 31 (.slice A_l l.length c_l) (.i (k_2:Int)))) 39 (.pointer (some (Ix A_l (k_2*20)))) (fun w hM=>Zp (h_l.sat hM) (by simp) Kr sd sd) {} (TL.v (sV (Instr.loadAt 44 (.pointer (some (Ix A_l (k_2*20)))))) 40 (Za.v x_2) (fun w hM=>Z6 (n:=20) (off:=0) (i:=k_2) (Za.v x_2) (h_l.sat hM) (Z8 hx_2) Kr Kr Kr) {} (TL.nw 12 (fun b3=>.p0 b3) (fun b3=>Bk b3 (Za.c Za.zero) 44) (fun b3=>{}) (fun b3=>TL.r 5 [] [(11,.i (k_2:Int))] {} (TL.s 0 (Bk b3 (Za.c x_2) 44) (fun _=>{}) (TL.nr (TL.r 1 [] [(13,.b true)] {} (TL.ns (TC.sr (TL.r 3 [2] [(41,.slice A_l l.length c_l),(42,.i (l.length:Int)),(43,.i 0)] {} (TL.next rfl ?_)))))))))))))))
      obtain⟨R7,hR_3⟩:∃ R,R=XH l band k_2 x_2 l 0 true:=⟨_,rfl⟩
      refine TC.cut (S:=Bool) (fun keep_2=>[(1,.i band),(2,.p0 b1),(9,.func (.func 157) #[] #[.p0 b1]),(10,.slice A_out out.length c_out),(12,.p0 b3),(13,.b keep_2),(34,.slice A_l l.length c_l),(35,.i (l.length:Int)),(36,.i (k_2:Int))]) (fun keep_2=>[Bk b3 (Za.c x_2) 44,Ow A_out c_out 44 20 (out.map Za.c),Bk b1 #[.slice A_l l.length c_l] 31]) (fun keep_2=>R7=keep_2) ?_ ?_
      ·refine TC.block (TC.lw (X:=Nat×Bool) (fun (k_3,keep)=>[(1,.i band),(2,.p0 b1),(9,.func (.func 157) #[] #[.p0 b1]),(10,.slice A_out out.length c_out),(11,.i (k_2:Int)),(12,.p0 b3),(13,.b keep),(34,.slice A_l l.length c_l),(35,.i (l.length:Int)),(36,.i (k_2:Int)),(41,.slice A_l l.length c_l),(42,.i (l.length:Int)),(43,.i (k_3:Int))]) (fun (k_3,keep)=>[Bk b3 (Za.c x_2) 44,Ow A_out c_out 44 20 (out.map Za.c),Bk b1 #[.slice A_l l.length c_l] 31]) (fun (k_3,keep)=>l.length-k_3) (fun (k_3,keep)=>k_3≤l.length∧R7=XH l band k_2 x_2 (l.drop k_3) k_3 keep) ?_ (0,true) ⟨Nat.zero_le _,hR_3⟩ Kr (sb 7))
       rintro⟨k_3,keep⟩ ⟨hk_3,hI_3⟩
       refine TC.sr (TL.r 1 [] [(44,.b (decide ((k_3:Int)<(l.length:Int))))] {} (TL.ns (TC.cond (decide ((k_3:Int)<(l.length:Int))) rfl Kr (fun h6=>?_) (fun h6=>?_))))
       ·have hlt_3:=ltN h6
        obtain⟨x_3,hx_3⟩:=elN hlt_3
        have hd_3:=drop_at hx_3
        refine TC.sn (TC.seq (TC.block (TC.sr (TL.r 1 [] [(45,.i (k_3:Int))] {} (TL.v (sV (Instr.indexAt 31 (.slice A_l l.length c_l) (.i (k_3:Int)))) 46 (.pointer (some (Ix A_l (k_3*20)))) (fun w hM=>Zp (h_l.sat hM) (by simp) Kr sd sd) {} (TL.v (sV (Instr.loadAt 44 (.pointer (some (Ix A_l (k_3*20)))))) 47 (Za.v x_3) (fun w hM=>Z6 (n:=20) (off:=0) (i:=k_3) (Za.v x_3) (h_l.sat hM) (Z8 hx_3) Kr Kr Kr) {} (TL.nw 15 (fun b4=>.p0 b4) (fun b4=>Bk b4 (Za.c Za.zero) 44) (fun b4=>{}) (fun b4=>TL.r 5 [] [(14,.i (k_3:Int))] {} (TL.s 0 (Bk b4 (Za.c x_3) 44) (fun _=>{}) (TL.nr (TL.r 4 [] [(51,.b ((k_3:Int) != (k_2:Int)))] {} (TL.split 51 ((k_3:Int) != (k_2:Int)) Kr (fun h7=>?_) (fun h7=>?_)))))))))))))
        ·have q7_0:=(L0 h7)
         refine TL.r 7 [1,0] [(52,Za.v x_2),(53,Za.v x_3),(54,.i band)] {} (TL.c 55 (Jw x_2 x_3 band) (fun r3=>.b r3) (fun w _=>FP x_2 x_3 band w) {} (fun r3 hr3=>TL.r 10 [] [(57,.b r3)] {} (TL.j 57 r3 18 [1,0] [] (fun β=>[(65,.b (β&&(x_2.Track.Code==x_3.Track.Code)))]) Kr {} {} (TL.r 19 [] [(66,.b (r3&&(x_2.Track.Code==x_3.Track.Code)))] {} (TL.j 66 (r3&&(x_2.Track.Code==x_3.Track.Code)) 24 [1] [] (fun β=>[(71,.b (β&&(x_2.Track.Code != (-1))))]) Kr {} {} (TL.r 25 [] [(72,.b ((r3&&(x_2.Track.Code==x_3.Track.Code))&&(x_2.Track.Code != (-1))))] {} (TL.split 72 ((r3&&(x_2.Track.Code==x_3.Track.Code))&&(x_2.Track.Code != (-1))) Kr (fun h8=>?_) (fun h8=>?_))))))))
         ·have q8_0:=(Y7 (Jk (Qw h8)))
          have q8_1:=(L0 (Jk h8))
          refine TL.r 28 [] [(73,.func (.func 157) #[] #[.p0 b1]),(74,.i (k_3:Int)),(75,.i (k_2:Int))] {} (TL.c 76 (Kv (k_3:Int) (k_2:Int) l) (fun r4=>.b r4) (fun w hM=>W3 (k_3:Int) (k_2:Int) ⟨b1,0,none⟩ A_l c_l l w (Rd.lit hM 3 _ rfl Kr Kr Kr) ⟨(h_l.sat hM),hc_l⟩ sg sg) {} (fun r4 hr4=>TL.r 30 [] [(77,.b r4)] {} (TL.next rfl (TC.cond r4 rfl Kr (fun h9=>?_) (fun h9=>?_)))))
          ·exact TC.region (TL.r 1 [] [(13,.b false)] {} (TL.done rfl (TE.nb (TE.next (TC.region (TL.r 2 [] [(43,.i (w64 ((k_3:Int)+1)))] {} (TL.done rfl (TE.rw 43 (.i (w64 ((k_3:Int)+1))) (.i ((k_3+1:Nat):Int)) Kr (ZF k_3 (by omega)) (TE.again (x:=(k_3,keep)) (k_3+1,false) ⟨by omega,hI_3.trans (by subst hr2 hr3 hr4;rw[hd_3];exact Zj h7 (Zj h8 (Zj h9 (rfl))))⟩ (mN hlt_3) Kr (sb 14))))))))))
          ·exact TC.skip (TE.nb (TE.next (TC.region (TL.r 2 [] [(43,.i (w64 ((k_3:Int)+1)))] {} (TL.done rfl (TE.rw 43 (.i (w64 ((k_3:Int)+1))) (.i ((k_3+1:Nat):Int)) Kr (ZF k_3 (by omega)) (TE.again (x:=(k_3,keep)) (k_3+1,keep) ⟨by omega,hI_3.trans (by subst hr2 hr3 hr4;rw[hd_3];exact Zj h7 (Zj h8 (Zb h9 (rfl))))⟩ (mN hlt_3) Kr (sb 14))))))))
         ·exact TL.r 30 [] [(77,.b false)] {} (TL.next rfl (TC.condF rfl Kr (TC.skip (TE.nb (TE.next (TC.region (TL.r 2 [] [(43,.i (w64 ((k_3:Int)+1)))] {} (TL.done rfl (TE.rw 43 (.i (w64 ((k_3:Int)+1))) (.i ((k_3+1:Nat):Int)) Kr (ZF k_3 (by omega)) (TE.again (x:=(k_3,keep)) (k_3+1,keep) ⟨by omega,hI_3.trans (by subst hr2 hr3;rw[hd_3];exact Zj h7 (Zb h8 (rfl)))⟩ (mN hlt_3) Kr (sb 14)))))))))))
        ·have q7_0:=(QQ h7)
         exact TL.r 30 [] [(77,.b false)] {} (TL.next rfl (TC.condF rfl Kr (TC.skip (TE.nb (TE.next (TC.region (TL.r 2 [] [(43,.i (w64 ((k_3:Int)+1)))] {} (TL.done rfl (TE.rw 43 (.i (w64 ((k_3:Int)+1))) (.i ((k_3+1:Nat):Int)) Kr (ZF k_3 (by omega)) (TE.again (x:=(k_3,keep)) (k_3+1,keep) ⟨by omega,hI_3.trans (by subst hr2;rw[hd_3];exact Zb h7 (rfl))⟩ (mN hlt_3) Kr (sb 14)))))))))))
       ·have hd_3:=Qc h6
        refine TC.exit (TE.et (TE.et (TE.exit_same ?_)))
        exact TE.cut keep (hI_3.trans (by subst hr2;rw[hd_3];exact rfl)) Kr (sb 7)
      ·rintro keep_2 hJ_3
       refine TE.nr (TL.r 1 [] [(79,.b keep_2)] {} (TL.next rfl (TC.cond keep_2 rfl Kr (fun h10=>?_) (fun h10=>?_))))
       ·refine TC.region (TL.r 2 [0] [(80,.slice A_out out.length c_out),(81,Za.v x_2)] {} (TL.nw 82 (fun b5=>.slice (Pa b5) 1 1) (fun b5=>Bk b5 (Za.c x_2) 44) (fun b5=>{}) (fun b5=>TL.os (Γ:=AN) (sV (Builtin.append_ #[31,31] 31 #[.slice A_out out.length c_out,.slice (Pa b5) 1 1])) 83 (fun g=>.slice g.1 (out++([x_2])).length g.2) 2 (fun g=>Ow g.1 g.2 44 20 ((out++([x_2])).map Za.c)) (Qx (bytes:=160) 31 2 ([x_2]) Kr rfl rfl Za.one rfl (fun w hM=>(Rd.lit hM 0 _ rfl Kr Kr Kr)) rfl sa) {} ?_)))
        rintro⟨A,c⟩
        exact TL.r 5 [] [(10,.slice A ((out++([x_2])).length) c)] {} (TL.done rfl (TE.nb (TE.next (TC.region (TL.r 2 [] [(36,.i (w64 ((k_2:Int)+1)))] {} (TL.done rfl (TE.rw 36 (.i (w64 ((k_2:Int)+1))) (.i ((k_2+1:Nat):Int)) Kr (ZF k_2 (by omega)) (TE.again (x:=(k_2,out,A_out,c_out)) (k_2+1,(out++([x_2])),A,c) ⟨by omega,hI_2.trans (by subst hr2;rw[hd_2];exact Ye (hR_3.symm.trans hJ_3) (Zj h10 (rfl))),sl⟩ (mN hlt_2) Kr (sb 12)))))))))
       ·exact TC.skip (TE.nb (TE.next (TC.region (TL.r 2 [] [(36,.i (w64 ((k_2:Int)+1)))] {} (TL.done rfl (TE.rw 36 (.i (w64 ((k_2:Int)+1))) (.i ((k_2+1:Nat):Int)) Kr (ZF k_2 (by omega)) (TE.again (x:=(k_2,out,A_out,c_out)) (k_2+1,out,A_out,c_out) ⟨by omega,hI_2.trans (by subst hr2;rw[hd_2];exact Ye (hR_3.symm.trans hJ_3) (Zb h10 (rfl))),sl⟩ (mN hlt_2) Kr (sb 6))))))))
     ·have hd_2:=Qc h5
      refine TC.exit (TE.et (TE.et (TE.exit_same ?_)))
      exact TE.cut (out,A_out,c_out) (⟨hI_2.trans (by subst hr2;rw[hd_2];exact rfl),sl⟩) Kr (sb 1)
    ·rintro⟨out_2,A_out_2,c_out_2⟩ ⟨hJ_2,hl_out_2⟩
     refine TE.nr (TL.r 3 [] [(4,.slice A_out_2 out_2.length c_out_2),(5,.i 0)] {} (TL.next rfl (TC.ret ?_)))
     have e:Xg l band=(out_2,0):=by subst hr2;unfold Xg;exact Zb h1 (Xk (hR.symm.trans hJ) (Zb h4 (Ye (hR_2.symm.trans hJ_2) (rfl))))
     rw[e]
     exact TE.retM (.inl rfl) (A_out_2,c_out_2) [] (.tuple #[.slice A_out_2 out_2.length c_out_2,.i 0]) {} rfl (fun _ hM=>hM.sub (sb 1))
end Go.Sky
end
