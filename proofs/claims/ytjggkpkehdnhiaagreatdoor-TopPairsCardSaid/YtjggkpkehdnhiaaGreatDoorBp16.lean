/- Lemmas toward the given statement (part 16 of 20): Dir TabAll Gu Gf OfB Gv Gw Wr RadT Rad. Each theorem states its own conditions; nothing is assumed beyond them. -/
import Derived.Test.YtjggkpkehdnhiaaGreatDoorBp11
import Derived.Test.YtjggkpkehdnhiaaGreatDoorBp12
import Derived.Test.YtjggkpkehdnhiaaGreatDoorBp13
import Derived.Test.YtjggkpkehdnhiaaGreatDoorBp14
import Derived.Test.YtjggkpkehdnhiaaGreatDoorBp15
import Derived.Test.YtjggkpkehdnhiaaGreatDoorBp03
set_option maxRecDepth 100000
section
namespace Go.Sky
open Go Go.Eng
def D3 (a:Nat):Nat→Bool
 | 0=>true
 | n+1=>(decide (XE a≤16384)&&decide (0<XE (1024-a))&&decide (XE a*XE (1024-(a+1))<XE (1024-a)*XE (a+1)))&&D3 (a+1) n
theorem LU (a n:Nat):D3 a (n+1)=((decide (XE a≤16384)&&decide (0<XE (1024-a))&&decide (XE a*XE (1024-(a+1))<XE (1024-a)*XE (a+1)))&&D3 (a+1) n):=rfl
theorem HB (n:Nat):∀ a,D3 a n=true→∀ k,a≤k→k<a+n→XE k≤16384∧0<XE (1024-k)∧XE k*XE (1024-(k+1))<XE (1024-k)*XE (k+1):=by
 induction n with
 | zero=>intro a _ k h1 h2;omega
 | succ n ih =>
  intro a h k h1 h2
  rw[LU,aX,aX,aX] at h
  by_cases he:a=k
  ·rw[← he];exact⟨of_decide_eq_true h.1.1.1,of_decide_eq_true h.1.1.2,of_decide_eq_true h.1.2⟩
  ·exact ih (a+1) h.2 k (by omega) (by omega)
theorem HC:D3 0 1024=true:=by kernel_rfl
theorem Ha:XE 0=0:=by kernel_rfl
theorem D4:XE 1024=16384:=by kernel_rfl
theorem He {k:Nat} (h:k≤1024):XE k≤16384:=by
 by_cases he:k=1024
 ·subst he;rw[D4];decide
 ·exact(HB 1024 0 HC k (by omega) (by omega)).1
theorem HD {k:Nat} (h:k<1024):0<XE (1024-k):=(HB 1024 0 HC k (by omega) (by omega)).2.1
theorem D5 {k:Nat} (h:k<1024):XE k*XE (1024-(k+1))<XE (1024-k)*XE (k+1):=(HB 1024 0 HC k (by omega) (by omega)).2.2
theorem C7 {n:Nat} (h:n≤1024):Gu n=(XE n:Int):=by unfold Gu;rw[fP h];rfl
theorem FT {a b:Nat} (h:b<a):Nat.ble a b=false:=by
 cases hb:Nat.ble a b with
 | false=>rfl
 | true=>have:=aN hb;omega
theorem SR {n:Nat} (h1:1024<n) (h:n≤2048):Gu n=(XE (2048-n):Int):=by unfold Gu;rw[FT h1,fP h];rfl
theorem IU {n:Nat} (h1:2048<n) (h:n≤3072):Gu n=-(XE (n-2048):Int):=by unfold Gu;rw[FT (show 1024<n by omega),FT h1,fP h];rfl
theorem IV {n:Nat} (h1:3072<n):Gu n=-(XE (4096-n):Int):=by unfold Gu;rw[FT (show 1024<n by omega),FT (show 2048<n by omega),FT h1];rfl
theorem C9 {n:Nat} (h:n<4096):-16384≤Gu n∧Gu n≤16384:=by
 by_cases c1:n≤1024
 ·rw[C7 c1];have:=He c1;omega
 by_cases c2:n≤2048
 ·rw[SR (by omega) c2];have:=He (show 2048-n≤1024 by omega);omega
 by_cases c3:n≤3072
 ·rw[IU (by omega) c3];have:=He (show n-2048≤1024 by omega);omega
 ·rw[IV (by omega)];have:=He (show 4096-n≤1024 by omega);omega
theorem OA {n:Nat} (h:n<4096):Gu ((n+2048)%4096)=-Gu n:=by
 by_cases c0:n=0
 ·subst c0;rw[show (0+2048)%4096=2048 from rfl,SR (n:=2048) (by decide) (by decide),C7 (n:=0) (by decide),show 2048-2048=0 from rfl,Ha];rfl
 by_cases c1:n≤1024
 ·rw[show (n+2048)%4096=n+2048 by omega,IU (by omega) (by omega),C7 c1,show n+2048-2048=n by omega]
 by_cases c2:n≤2048
 ·by_cases c:n=2048
  ·subst c;rw[show (2048+2048)%4096=0 from rfl,SR (n:=2048) (by decide) (by decide),C7 (n:=0) (by decide),show 2048-2048=0 from rfl,Ha];rfl
  ·rw[show (n+2048)%4096=n+2048 by omega,IV (by omega),SR (by omega) c2,show 4096-(n+2048)=2048-n by omega]
 by_cases c3:n≤3072
 ·rw[show (n+2048)%4096=n-2048 by omega,C7 (by omega),IU (by omega) c3];omega
 ·rw[show (n+2048)%4096=n-2048 by omega,SR (by omega) (by omega),IV (by omega),show 2048-(n-2048)=4096-n by omega];omega
def sn (k:Nat):Int:=Gu (k%4096)
def cs (k:Nat):Int:=Gu ((k+1024)%4096)
theorem FU (k:Nat):-16384≤sn k∧sn k≤16384:=C9 (fE _ (by decide))
theorem FV (k:Nat):-16384≤cs k∧cs k≤16384:=C9 (fE _ (by decide))
theorem Gk (k:Nat):sn (k+1024)=cs k:=rfl
theorem Gl (k:Nat):cs (k+1024)=-sn k:=by
 unfold cs sn
 rw[show (k+1024+1024)%4096=(k%4096+2048)%4096 by omega]
 exact OA (fE _ (by decide))
theorem Hf (k:Nat):sn (k%4096)=sn k:=by unfold sn;rw[Nat.mod_mod]
theorem Hg (k:Nat):cs (k%4096)=cs k:=by unfold cs;rw[show (k%4096+1024)%4096=(k+1024)%4096 by omega]
theorem CB {k:Nat} (h:k≤1024):sn k=(XE k:Int):=by unfold sn;rw[dK (by omega)];exact C7 h
theorem CC {k:Nat} (h:k≤1024):cs k=(XE (1024-k):Int):=by
 unfold cs
 rw[dK (by omega)]
 by_cases h0:k=0
 ·subst h0;exact C7 (by decide)
 ·rw[SR (by omega) (by omega),show 2048-(k+1024)=1024-k by omega]
def Sec (k:Nat) (x y:Int):Prop:=0≤cs k*x-sn k*y∧0<y*sn (k+1)-x*cs (k+1)∧0<sn k*x+cs k*y
instance (k:Nat) (x y:Int):Decidable (Sec k x y):=by unfold Sec;infer_instance
theorem Vn (k:Nat) (x y:Int):Sec (k+1024) x y↔Sec k (-y) x:=by
 unfold Sec
 rw[show k+1024+1=k+1+1024 by omega,Gk,Gk,Gl,Gl]
 generalize cs k=a;generalize sn k=b;generalize cs (k+1)=c;generalize sn (k+1)=d
 have e1:-b*x-a*y=a * -y-b*x:=by grind
 have e2:y*c-x * -d=x*d - -y*c:=by grind
 have e3:a*x + -b*y=b * -y+a*x:=by grind
 rw[e1,e2,e3]
theorem KP {k:Nat} {x y:Int} (hk:k<1024) (h:Sec k x y):0≤x∧0<y:=by
 obtain⟨h1,h2,h3⟩:=h
 rw[CB (by omega),CC (by omega)] at h1 h3
 rw[CB (by omega),CC (by omega)] at h2
 have p1:=HD hk
 have p4:0<XE (k+1):=by
  have:=D5 hk
  rcases bX (XE (k+1)) with h|h
  ·rw[h,gX] at this;omega
  ·exact h
 generalize XE k=a at *;generalize XE (1024-k)=b at *;generalize XE (k+1)=c at *;generalize XE (1024-(k+1))=d at *
 have hy:0<y:=by
  rcases dC 0 y with hy|hy
  ·exact hy
  ·exfalso
   have n1:(a:Int)*y≤0:=dX (aQ _) hy
   have n2:(b:Int)*y≤0:=dX (aQ _) hy
   have n3:y*(c:Int)≤0:=Int.mul_nonpos_of_nonpos_of_nonneg hy (aQ _)
   rcases dC 0 x with hx|hx
   ·have n4:0≤x*(d:Int):=aV (gG hx) (aQ _)
    omega
   ·have n4:(a:Int)*x≤0:=dX (aQ _) hx
    omega
 refine⟨?_,hy⟩
 rcases dC x 0 with hx|hx
 ·exfalso
  have n1:0≤(a:Int)*y:=aV (aQ _) (gG hy)
  have n2:(b:Int)*x<0:=fA (by omega) hx
  omega
 ·exact hx
theorem LV {k:Nat} {x y:Int} (hk:k<1024) (hy:0<y) (h:0≤cs (k+1)*x-sn (k+1)*y):0≤cs k*x-sn k*y:=by
 rw[CB (by omega),CC (by omega)] at h ⊢
 have p1:=HD hk
 have t:=D5 hk
 generalize XE k=a at *;generalize XE (1024-k)=b at *;generalize XE (k+1)=c at *;generalize XE (1024-(k+1))=d at *
 have p4:0<c:=by rcases bX c with h|h;rw[h,gX] at t;omega;exact h
 have t':(a:Int)*d<b*c:=by rw[← hH,← hH];exact cB.2 t
 rcases bX d with hd|hd
 ·exfalso
  subst hd
  have:0<(c:Int)*y:=gP (by omega) hy
  simp at h;omega
 ·
  have e1:(d:Int)*((b:Int)*x-a*y)=b*(d*x-c*y)+(b*c-a*d)*y:=by grind
  have q1:0≤(b:Int)*(d*x-c*y):=aV (by omega) h
  have q2:0<((b:Int)*c-a*d)*y:=gP (by omega) hy
  have q3:0<(d:Int)*((b:Int)*x-a*y):=by omega
  rcases dC ((b:Int)*x-a*y) 0 with h5|h5
  ·have:=fA (show (0:Int)<d by omega) h5;omega
  ·exact h5
theorem CE {x y:Int} (hy:0<y):∀ (n k:Nat),k+n≤1024→0≤cs (k+n)*x-sn (k+n)*y→0≤cs k*x-sn k*y:=by
 intro n
 induction n with
 | zero=>intro k _ h;exact h
 | succ n ih=>intro k hk h;exact ih k (by omega) (LV (k:=k+n) (by omega) hy h)
theorem D6 {k l:Nat} {x y:Int} (hl:l<1024) (hkl:k<l) (hy:0<y) (h:Sec k x y) (h':Sec l x y):False:=by
 have a:=CE (x:=x) hy (l-(k+1)) (k+1) (by omega) (by rw[show k+1+(l-(k+1))=l by omega];exact h'.1)
 have b:=h.2.1
 generalize cs (k+1)=c at *;generalize sn (k+1)=d at *
 have e:y*d-x*c=-(c*x-d*y):=by grind
 omega
theorem B7 {k l:Nat} {x y:Int} (hk:k<1024) (hl:l<1024) (h:Sec k x y) (h':Sec l x y):k=l:=by
 have hy:=(KP hk h).2
 rcases gR k l with c|c|c
 ·exact(D6 hl c hy h h').elim
 ·exact c
 ·exact(D6 hk c hy h' h).elim
theorem Hh {x y:Int} (hx:0≤x) (hy:0<y):∃ k,k<1024∧Sec k x y:=by
 have key:∀ n,n≤1024→(∃ k,k<n∧Sec k x y)∨0≤cs n*x-sn n*y:=by
  intro n
  induction n with
  | zero =>
   intro _
   refine .inr ?_
   rw[CB (by omega),CC (by omega),Ha,show 1024-0=1024 from rfl,D4]
   simp;omega
  | succ n ih =>
   intro hn
   rcases ih (by omega) with ⟨k,h1,h2⟩|h
   ·exact .inl ⟨k,by omega,h2⟩
   ·by_cases c:0≤cs (n+1)*x-sn (n+1)*y
    ·exact .inr c
    ·refine .inl ⟨n,by omega,h,?_,?_⟩
     ·generalize cs (n+1)=q at *;generalize sn (n+1)=d at *
      have e:y*d-x*q=-(q*x-d*y):=by grind
      omega
     ·rw[CB (by omega),CC (by omega)]
      have p1:=HD (show n<1024 by omega)
      have q1:0≤(XE n:Int)*x:=aV (aQ _) hx
      have q2:0<(XE (1024-n):Int)*y:=gP (by omega) hy
      omega
 rcases key 1024 (by omega) with h|h
 ·exact h
 ·exfalso
  rw[CB (by omega),CC (by omega),show 1024-1024=0 from rfl,Ha,D4] at h
  simp at h;omega
theorem HE {k:Nat} {x y:Int} (hk:k<4096) (h:Sec k x y):(k<1024∧0≤x∧0<y∧Sec k x y)∨(1024≤k∧k<2048∧0 ≤ -y∧0<x∧Sec (k-1024) (-y) x) ∨
  (2048≤k∧k<3072∧0 ≤ -x∧0 < -y∧Sec (k-2048) (-x) (-y))∨(3072≤k∧0≤y∧0 < -x∧Sec (k-3072) y (-x)):=by
 by_cases c1:k<1024
 ·exact .inl ⟨c1,(KP c1 h).1,(KP c1 h).2,h⟩
 have h1:Sec (k-1024) (-y) x:=(Vn (k-1024) x y).1 (by rw[show k-1024+1024=k by omega];exact h)
 by_cases c2:k<2048
 ·exact .inr (.inl ⟨by omega,c2,(KP (by omega) h1).1,(KP (by omega) h1).2,h1⟩)
 have h2:Sec (k-2048) (-x) (-y):=(Vn (k-2048) (-y) x).1 (by rw[show k-2048+1024=k-1024 by omega];exact h1)
 by_cases c3:k<3072
 ·exact .inr (.inr (.inl ⟨by omega,c3,(KP (by omega) h2).1,(KP (by omega) h2).2,h2⟩))
 have h3:Sec (k-3072) y (-x):=by
  have:=(Vn (k-3072) (-x) (-y)).1 (by rw[show k-3072+1024=k-2048 by omega];exact h2)
  rwa [fV] at this
 exact .inr (.inr (.inr ⟨by omega,(KP (by omega) h3).1,(KP (by omega) h3).2,h3⟩))
theorem OB {k l:Nat} {x y:Int} (hk:k<4096) (hl:l<4096) (h:Sec k x y) (h':Sec l x y):k=l:=by
 rcases HE hk h with a|a|a|a <;> rcases HE hl h' with b|b|b|b <;> first|omega|skip
 ·exact B7 a.1 b.1 a.2.2.2 b.2.2.2
 ·have:=B7 (by omega) (by omega) a.2.2.2.2 b.2.2.2.2;omega
 ·have:=B7 (by omega) (by omega) a.2.2.2.2 b.2.2.2.2;omega
 ·have:=B7 (by omega) (by omega) a.2.2.2 b.2.2.2;omega
theorem EN {x y:Int} (h:¬ (x=0∧y=0)):∃ k,k<4096∧Sec k x y:=by
 by_cases c1:0≤x∧0<y
 ·obtain⟨k,h1,h2⟩:=Hh c1.1 c1.2
  exact⟨k,by omega,h2⟩
 by_cases c2:0 ≤ -y∧0<x
 ·obtain⟨k,h1,h2⟩:=Hh c2.1 c2.2
  exact⟨k+1024,by omega,(Vn k x y).2 h2⟩
 by_cases c3:0 ≤ -x∧0 < -y
 ·obtain⟨k,h1,h2⟩:=Hh c3.1 c3.2
  exact⟨k+1024+1024,by omega,(Vn _ x y).2 ((Vn k (-y) x).2 h2)⟩
 ·obtain⟨k,h1,h2⟩:=Hh (x:=y) (y:=-x) (by omega) (by omega)
  exact⟨k+1024+1024+1024,by omega,(Vn _ x y).2 ((Vn _ (-y) x).2 ((Vn k (-x) (-y)).2 (by rw[fV];exact h2)))⟩
def W7 (x y:Int):Nat:=((List.range 4096).find? (fun k=>decide (Sec k x y))).getD 0
theorem B8 {x y:Int} (h:¬ (x=0∧y=0)):W7 x y<4096∧Sec (W7 x y) x y:=by
 obtain⟨k,h1,h2⟩:=EN h
 unfold W7
 cases hf:(List.range 4096).find? (fun k=>decide (Sec k x y)) with
 | none =>
  rw[List.find?_eq_none] at hf
  exact absurd (decide_eq_true h2) (hf k (dV.2 h1))
 | some l =>
  have a:=List.find?_some hf
  have b:=List.mem_of_find?_eq_some hf
  exact⟨dV.1 b,of_decide_eq_true a⟩
theorem EO {k:Nat} {x y:Int} (hk:k<4096) (h:Sec k x y):W7 x y=k:=by
 have h0:¬ (x=0∧y=0):=by
  rintro⟨rfl,rfl⟩
  have:=h.2.2
  simp at this
 exact OB (B8 h0).1 hk (B8 h0).2 h
end Go.Sky
end
section
namespace Go.Sky
open Go Go.Eng
theorem OC {n:Nat} (h:n<4096):floatToIntVal .f64 (C6 n) .i64=some (Gu n):=by
 refine IR ?_
 by_cases c1:n<1024
 ·exact Zas n (by omega) (by omega)
 by_cases c2:n<2048
 ·exact Zat n (by omega) (by omega)
 by_cases c3:n<3072
 ·exact Zau n (by omega) (by omega)
 ·exact Zav n (by omega) (by omega)
theorem OD {x:Nat} {k:IntKind} {t:Int} (h:floatToIntVal .f64 x k=some t):f2i x=t:=by
 unfold floatToIntVal at h
 unfold f2i
 split at h
 ·rename_i n hn
  split at h
  ·cases h;rw[hn];rfl
  ·cases h
 ·cases h
theorem OE (h:Int):h.tmod 4096=if 0≤h then h%4096 else -(-h%4096):=by
 split
 ·rename_i h0;exact cP h0
 ·rename_i h0
  have:=Int.neg_tmod (-h) 4096
  rw[fV] at this
  rw[this,cP (by omega)]
theorem GT (h:Int):Yo h=h%4096:=by
 unfold Yo
 have a:=OE h
 have b:-4096<h.tmod 4096∧h.tmod 4096<4096:=by rw[a];split <;> omega
 rw[Zt (by omega),cP (by omega),a]
 split <;> omega
theorem Ys {h r:Int} (hr:Yo h=r):0≤r∧r<4096:=by rw[GT] at hr;omega
theorem Hi {h r:Int} (hr:Yo h=r):Po 12 (dbl r):=O1 12 (by have:=Ys hr;omega) (Ys hr).1
theorem EP (x y:Nat):fdiv x y<18446744073709551616:=by
 unfold fdiv
 cases h:FloatKind.f64.format.div x y with
 | none=>decide
 | some r=>exact FloatKind.f64.format.div_lt h
theorem EQ {zz:Nat} [h:Bd 40 zz]:Bd 400 (EM zz):=by unfold EM EK;exact Qz
theorem ER {z zz:Nat} [h:Bd 20 z] [h2:Bd 40 zz]:Bd 400 (EL z zz):=by unfold EL EK;exact Qz
theorem TM {j:Int} {z:Nat} [h:Bd 20 z]:Bd 400 (WZ j z):=by
 unfold WZ
 have i_:Bd 40 (Zh z z):=Qz
 cases (j==1||j==2)
 ·exact ER
 ·exact EQ
theorem ES {x:Nat} [h:Po 14 x]:Po 17 (Bn x):=by
 unfold Bn
 have i_:=Me (x:=x)
 have j_:Po 16 (dbl (Bm x)):=i_
 cases C3 x
 ·exact O7 i_
 ·exact(NV:Po 17 (Zk (dbl (Bm x)) 4607182418800017408))
theorem ET {x:Nat} [h:Po 14 x]:Bd 400 (HA x):=by
 have i_:=ES (x:=x)
 have z_:Bd 20 (Bo x):=by unfold Bo;exact Qz
 unfold HA
 cases feq x 0
 ·cases decide (Md x>3)
  ·exact TM
  ·have q_:Bd 400 (WZ (YI (Md x-4)) (Bo x)):=TM
   exact bdN
 ·exact(Qz:Bd 400 x)
theorem OG {h r:Int} (hr:Yo h=r):Po 14 (fdiv (Zh (dbl r) 4614256656552045848) 4656722014701092864):=by
 have i_:=Hi hr
 exact NV
theorem CG {h r1:Int} {r2:Nat} (h1:Yo h=r1) (h2:VF (fdiv (Zh (dbl r1) 4614256656552045848) 4656722014701092864)=r2):Bd 400 r2:=by
 subst h2
 have i_:=OG h1
 exact ET
theorem IW {h r1:Int} {r2 r3:Nat} (h1:Yo h=r1) (h2:VF (fdiv (Zh (dbl r1) 4614256656552045848) 4656722014701092864)=r2) (h3:JR (Zh 4670232813583204352 r2)=r3):floatToIntVal .f64 r3 .i64=some (f2i r3):=by
 have n:=Ys h1
 have t:=OC (n:=r1.toNat) (by omega)
 have e:C6 r1.toNat=r3:=by
  unfold C6 IK
  rw[bN n.1,h2,h3]
 rw[e] at t
 rw[t,OD t]
end Go.Sky
end
section
namespace Go.Sky
open Go Go.Eng Go.Proofs
def J8 (h_:Int):Int :=
 let r1:=Yo h_
 let r2:=VF (fdiv (Zh (dbl r1) 4614256656552045848) 4656722014701092864)
 let r3:=JR (Zh 4670232813583204352 r2)
 f2i r3
theorem G9 (h_:Int) (w:World) (hT:G8 w):Calls Tryz.prog 148 #[.int .i64 h_] w (Ret w (.int .i64 (J8 h_))):=by
 exact Zp (vs:=[.i h_]) (w:=w) Tryz.func148 rfl Tryz.ntmps148 rfl (Zf (Zc 1 [] [(2,.i 0)] {} (Zz (Zc 1 [] [(3,.i h_)] {} (TL.c 4 (Yo h_) (fun r1=>.i r1) (fun w _=>KO h_ w) {} (fun r1 hr1=>Zc 3 [] [(5,.fl (dbl r1))] {} (TL.v (sV (binOp .mul 215 (.fl (dbl r1)) (.fl 4614256656552045848))) 6 (.fl (Zh (dbl r1) 4614256656552045848)) (fun w hM=>Y9 (by (try have i_:=Hi hr1);(try have b_:=CG hr1 hr2);exact fmS)) {} (TL.v (sV (binOp .quo 215 (.fl (Zh (dbl r1) 4614256656552045848)) (.fl 4656722014701092864))) 7 (.fl (fdiv (Zh (dbl r1) 4614256656552045848) 4656722014701092864)) (fun w hM=>UJ (by (try have i_:=Hi hr1);(try have b_:=CG hr1 hr2);exact fdS)) {} (TL.c 8 (VF (fdiv (Zh (dbl r1) 4614256656552045848) 4656722014701092864)) (fun r2=>.fl r2) (fun w hM=>C5 (fdiv (Zh (dbl r1) 4614256656552045848) 4656722014701092864) w (OG hr1) (EP _ _) (hT.sat hM)) {} (fun r2 hr2=>TL.v (sV (binOp .mul 215 (.fl 4670232813583204352) (.fl r2))) 9 (.fl (Zh 4670232813583204352 r2)) (fun w hM=>Y9 (by (try have i_:=Hi hr1);(try have b_:=CG hr1 hr2);exact fmS)) {} (TL.c 10 (JR (Zh 4670232813583204352 r2)) (fun r3=>.fl r3) (fun w _=>M1 (Zh 4670232813583204352 r2) w) {} (fun r3 hr3=>TL.v (sV (convert 215 3 (.fl r3))) 11 (.i (f2i r3)) (fun w hM=>NN Kr Kr (IW hr1 hr2 hr3)) {} (Zc 10 [] [(2,.i (f2i r3))] {} (Zb rfl (TC.ret (TE.ret [] (.i (f2i r3)) {} (by unfold J8;refine eS (fun z=>(.i z:Value)) ?_;subst hr1 hr2 hr3;exact rfl)))))))))))))))))
def K3 (h_:Int):Int :=
 let r1:=Yo h_
 let r2:=J8 (w64 (r1+1024))
 r2
theorem M3 (h:Int):J8 h=Gu (h%4096).toNat:=by
 unfold J8
 simp only
 have n:=Ys (h:=h) rfl
 have t:=OC (n:=(Yo h).toNat) (by omega)
 have e:C6 (Yo h).toNat=JR (Zh 4670232813583204352 (VF (fdiv (Zh (dbl (Yo h)) 4614256656552045848) 4656722014701092864))):=by
  unfold C6 IK
  rw[bN n.1]
 rw[e] at t
 rw[OD t,GT]
theorem M4 (k:Nat):J8 (k:Int)=sn k:=by rw[M3,show ((k:Int)%4096).toNat=k%4096 by omega];rfl
theorem HY (h_:Int) (w:World) (hT:G8 w):Calls Tryz.prog 149 #[.int .i64 h_] w (Ret w (.int .i64 (K3 h_))):=by
 exact Zp (vs:=[.i h_]) (w:=w) Tryz.func149 rfl Tryz.ntmps149 rfl (Zf (Zc 1 [] [(2,.i 0)] {} (Zz (Zc 1 [] [(3,.i h_)] {} (TL.c 4 (Yo h_) (fun r1=>.i r1) (fun w _=>KO h_ w) {} (fun r1 hr1=>Zc 3 [] [(5,.i (w64 (r1+1024)))] {} (TL.c 6 (J8 (w64 (r1+1024))) (fun r2=>.i r2) (fun w hM=>G9 (w64 (r1+1024)) w (hT.sat hM)) {} (fun r2 hr2=>Zc 5 [] [(2,.i r2)] {} (Zb rfl (TC.ret (TE.ret [] (.i r2) {} (by unfold K3;refine eS (fun z=>(.i z:Value)) ?_;subst hr1 hr2;exact rfl))))))))))))
def ZE (h_:Int):P :=
 let r1:=J8 h_
 let r2:=K3 h_
 (⟨r1,r2⟩:P)
theorem M5 (k:Nat):K3 (k:Int)=cs k:=by
 unfold K3
 simp only
 rw[GT,M3,Zt (by omega),show (((k:Int)%4096+1024)%4096).toNat=(k+1024)%4096 by omega];rfl
theorem VP (h_:Int) (w:World) (hT:G8 w):Calls Tryz.prog 132 #[.int .i64 h_] w (Ret w (P.v (ZE h_))):=by
 exact Zp (vs:=[.i h_]) (w:=w) Tryz.func132 rfl Tryz.ntmps132 rfl (Zf (ZA 2 (fun b1=>.p0 b1) (fun b1=>Bk b1 (P.c P.zero) 36) (fun b1=>{}) (fun b1=>Zz (Zc 1 [] [(3,.i h_)] {} (TL.c 4 (J8 h_) (fun r1=>.i r1) (fun w hM=>G9 h_ w (hT.sat hM)) {} (fun r1 hr1=>Zc 3 [] [(5,.i h_)] {} (TL.c 6 (K3 h_) (fun r2=>.i r2) (fun w hM=>HY h_ w (hT.sat hM)) {} (fun r2 hr2=>Zc 5 [] [(7,P.v (⟨r1,r2⟩:P))] {} (Yp 0 (Bk b1 (P.c (⟨r1,r2⟩:P)) 36) (fun _=>{}) (Zb rfl (TC.ret (TE.ret [0] (P.v (⟨r1,r2⟩:P)) {} (by unfold ZE;refine eS (fun z=>(P.v z:Value)) ?_;subst hr1 hr2;exact rfl)))))))))))))
def ZU (a:P) (b_:P):Int :=
 w64 ((w64 (a.Y*b_.X))-(w64 (a.X*b_.Y)))
theorem V7 (a:P) (b_:P) (w:World):Calls Tryz.prog 133 #[P.v a,P.v b_] w (Ret w (.int .i64 (ZU a b_))):=by
 exact Zp (vs:=[P.v a,P.v b_]) (w:=w) Tryz.func133 rfl Tryz.ntmps133 rfl (Zf (ZA 2 (fun b1=>.p0 b1) (fun b1=>Bk b1 (P.c a) 36) (fun b1=>{}) (fun b1=>ZA 3 (fun b2=>.p0 b2) (fun b2=>Bk b2 (P.c b_) 36) (fun b2=>{}) (fun b2=>Zc 3 [] [(4,.i 0)] {} (Zz (Zc 12 [1,0,1,0] [(4,.i (w64 ((w64 (a.Y*b_.X))-(w64 (a.X*b_.Y)))))] {} (Zb rfl (TC.ret (TE.ret [] (.i (w64 ((w64 (a.Y*b_.X))-(w64 (a.X*b_.Y))))) {} (by unfold ZU;refine eS (fun z=>(.i z:Value)) ?_;exact rfl))))))))))
def Qd (n:Int):Int:=if n<0 then -((-n+8192)/16384) else (n+8192)/16384
theorem V8 {n:Int} (hb:-4611686018427387904≤n∧n≤4611686018427387904):-4611686018427387904≤Qd n∧Qd n≤4611686018427387904:=by
 unfold Qd;split <;> omega
theorem LW {n r:Int} (h:n<0) (hr:r=Qd (0-n)):0-r=Qd n:=by
 rw[hr];unfold Qd
 rw[if_neg (by omega),if_pos h,show 0-n=-n by omega];omega
theorem OH {n:Int} (h:¬ n<0):(n+8192)/16384=Qd n:=by unfold Qd;rw[if_neg h]
theorem LX {n d:Int} (hd:d=16384) (h:¬ n<0) (hb:-4611686018427387904≤n∧n≤4611686018427387904):w64 ((n+d/2).tdiv d)=Qd n:=by
 subst hd
 rw[show (16384:Int)/2=8192 from rfl,dB (by omega),Zt (by omega)]
 exact OH h
theorem Hj:∀ (fu_:Nat) (n:Int) (d:Int) (w:World) (_hM:Sat ⟨w,XR []⟩ [] w) (_hd:d=16384) (_hb:-4611686018427387904≤n∧n≤4611686018427387904) (_hn:(0-n).toNat<fu_),Calls Tryz.prog 147 #[.int .i64 n,.int .i64 d] w (JH (Γ:=Int) ⟨w,XR []⟩ (fun g=>.int .i64 g) (fun g=>[.inr (Qm (g=Qd n))]))
 | 0,_,_,_,_,_,_,hn=>absurd hn (cE _)
 | fu_+1,n,d,w,hM,hd,hb,hn=>by
  have ih:=Hj fu_
  refine YS (w0:=⟨w,XR []⟩) (vs:=[.i n,.i d]) hM Tryz.func147 rfl Tryz.ntmps147 rfl (JG [(0,.i n),(1,.i d)] Kr (Zf (TL.run 1 [] [(0,.i n),(1,.i d)] rfl {} (Z1 (Zf (TL.run 2 [] [(0,.i n),(1,.i d),(6,.b (decide (n<0)))] rfl {} (Zb rfl (TC.cond (decide (n<0)) rfl Kr (fun h1=>?_) (fun h1=>?_)))))))))
  ·refine Zf (TL.run 3 [] [(8,.i (w64 (0-n))),(9,.i d)] rfl {} (TL.rw 8 (.i (w64 (0-n))) (.i (0-n)) Kr (int_eq (by have q0_:=(ZF h1);have nb_:=V8 (n:=0-n) (by omega);rw[Zt (x:=(0-n)) (by omega)])) (Qy (Γ:=Int) (fun g=>.i g) (fun g=>[.inr (Qm (g=Qd (0-n)))]) [] [] (some 10) (fun g=>[(10,.i g)]) (fun w hM=>ih (0-n) d w hM.pass (by have q0_:=(ZF h1);have nb_:=V8 (n:=0-n) (by omega);exact sg) (by have q0_:=(ZF h1);have nb_:=V8 (n:=0-n) (by omega);exact sg) (by have q0_:=(ZF h1);have nb_:=V8 (n:=0-n) (by omega);exact sg)) Kr (fun g=>Kr) ?_)))
   rintro r_
   exact Xm [.inr (Qm (r_=Qd (0-n)))] (fun _ hM=>hM) (Y3 (fun w hM=>hM.fact_at 0 rfl) (fun jr=>X2 [] (.cons _ (aB _)) (TL.run 6 [] [(4,.i (w64 (0-r_)))] rfl {} (TL.rw 4 (.i (w64 (0-r_))) (.i (0-r_)) Kr (int_eq (by have q0_:=(ZF h1);have nb_:=V8 (n:=0-n) (by omega);rw[Zt (x:=(0-r_)) (by omega)])) (Zb rfl (TC.ret (Zo (ZO (.inl rfl) (0-r_) [] (.i (0-r_)) {} rfl (fun _ hM=>(hM.sub (sb 0)).fact (by have q0_:=(ZF h1);have nb_:=V8 (n:=0-n) (by omega);(try dsimp only);first|exact LW (by omega) jr|exact LX hd (by omega) hb))))))))))
  ·exact Yc (TL.run 5 [] [(15,.i (w64 (n+(w64 (d.tdiv 2))))),(16,.i d)] rfl {} (TL.rw 15 (.i (w64 (n+(w64 (d.tdiv 2))))) (.i (n+(((d/2))))) Kr (int_eq (by have q0_:=(Zv h1);have nb_:=V8 (n:=0-n) (by omega);rw[UA (a:=d) 2 (by omega),Zt (x:=((d/2))) (by omega),Zt (x:=(n+(((d/2))))) (by omega)])) (ZW (sV (binOp .quo 3 (.i (n+(((d/2))))) (.i d))) (some 17) (.i (w64 ((n+(((d/2)))).tdiv d))) [(17,.i (w64 ((n+(((d/2)))).tdiv d)))] (fun w hM=>Ta (by have q0_:=(Zv h1);have nb_:=V8 (n:=0-n) (by omega);exact sd)) Kr Kr (TL.run 7 [] [(4,.i (w64 ((n+(((d/2)))).tdiv d)))] rfl {} (TL.rw 4 (.i (w64 ((n+(((d/2)))).tdiv d))) (.i (w64 ((n+(((d/2)))).tdiv d))) Kr (int_eq (by have q0_:=(Zv h1);have nb_:=V8 (n:=0-n) (by omega);rw[])) (Zb rfl (TC.ret (ZO (.inl rfl) (w64 ((n+(((d/2)))).tdiv d)) [] (.i (w64 ((n+(((d/2)))).tdiv d))) {} rfl (fun _ hM=>(hM.sub (sb 0)).fact (by have q0_:=(Zv h1);have nb_:=V8 (n:=0-n) (by omega);(try dsimp only);first|exact LW (by omega) jr|exact LX hd (by omega) hb))))))))))
theorem Hk (n:Int) (d:Int) (w:World) (hM:Sat ⟨w,XR []⟩ [] w) (hd:d=16384) (hb:-4611686018427387904≤n∧n≤4611686018427387904):Calls Tryz.prog 147 #[.int .i64 n,.int .i64 d] w (JH (Γ:=Int) ⟨w,XR []⟩ (fun g=>.int .i64 g) (fun g=>[.inr (Qm (g=Qd n))])):=Hj ((0-n).toNat+1) n d w hM hd hb (cY _)
end Go.Sky
end
section
namespace Go.Sky
open Go Go.Eng Go.Proofs
def V2 (x:Nat):Nat :=
 UZ x
theorem M6 (x:Nat) (w:World) (hx:Bd 60 x):Calls Tryz.prog 129 #[.fl x] w (Ret w (.fl (V2 x))):=by
 exact Zp (vs:=[.fl x]) (w:=w) Tryz.func129 rfl Tryz.ntmps129 rfl (Zf (Zc 1 [] [(2,.fl 0)] {} (Z1 (Xg rfl Kr (Zf (Zc 1 [] [(3,.fl x)] {} (TL.v (callFunc 161 #[.fl x]) 4 (.fl (UZ x)) (fun w hM=>Cj Tryz.func161 Kr Kr Kr Kr (by exact Zar)) {} (Zc 3 [] [(2,.fl (UZ x))] {} (Zb rfl (TC.ret (Zo (TE.ret [] (.fl (UZ x)) {} (by unfold V2;refine eS (fun z=>(.fl z:Value)) ?_;exact rfl)))))))))))))
end Go.Sky
end
section
namespace Go.Sky
open Go Go.Eng
abbrev pQ6 (a:Nat):Nat:=fdiv (Zh a 4656722014701092864) 4614256656552045848
theorem LY {e x r:Nat} [h:Bd e x] (hr:V2 x=r):Bd (e+1) r:=by subst hr;exact bdF
theorem OI {q r:Nat} {g:Int} (_h:Bd 46 q) (h1:V2 (pQ6 q)=r) (h2:f2i r=g):-1152921504606846976≤g∧g≤1152921504606846976:=by
 have i_:=LY h1
 have j_:Bd 60 r:=Qz
 obtain⟨s,a,h3,_,h5⟩:=O2 (x:=r) (e:=60) (by decide)
 have:(2:Nat) ^ 60=1152921504606846976:=rfl
 rw[← h2,h5]
 split <;> omega
def ofF (v:P):Int×Int :=
 if v.X < -2000000∨2000000<v.X∨v.Y < -2000000∨2000000<v.Y then (0,4)
 else if v.X=0∧v.Y=0 then (0,10)
 else (if cs (W7 v.X v.Y)*v.X-sn (W7 v.X v.Y)*v.Y≤v.Y*sn (W7 v.X v.Y+1)-v.X*cs (W7 v.X v.Y+1) then (W7 v.X v.Y:Int) else ((W7 v.X v.Y+1)%4096:Nat),0)
theorem Q6 {v:P} (h:((v.X==0)&&(v.Y==0))=false):¬ (v.X=0∧v.Y=0):=by
 rintro⟨h1,h2⟩
 rw[h1,h2] at h;cases h
def Ul (v:P):Prop:=-2000000≤v.X∧v.X≤2000000 ∧ -2000000≤v.Y∧v.Y≤2000000
theorem X5 {v:P} (h:((((decide (v.X<(-2000000)))||(decide (v.X>2000000)))||(decide (v.Y<(-2000000))))||(decide (v.Y>2000000)))=false):Ul v:=by
 simp only[cH,decide_eq_false_iff_not] at h
 unfold Ul;omega
theorem W8 {v:P} (h:v.X < -2000000∨2000000<v.X∨v.Y < -2000000∨2000000<v.Y):0=(ofF v).1∧4=(ofF v).2:=by unfold ofF;rw[if_pos h];exact⟨rfl,rfl⟩
theorem Ut {v:P} (h:Ul v) (h0:v.X=0∧v.Y=0):0=(ofF v).1∧10=(ofF v).2:=by
 obtain⟨a1,a2,a3,a4⟩:=h
 unfold ofF;rw[if_neg (by omega),if_pos h0];exact⟨rfl,rfl⟩
theorem Ui {a b:Int} (ha:-16384≤a∧a≤16384) (hb:-2000000≤b∧b≤2000000):-32768000000≤a*b∧a*b≤32768000000:=by
 have h:(a*b).natAbs≤16384*2000000:=by rw[Int.natAbs_mul];exact Nat.mul_le_mul (by omega) (by omega)
 omega
theorem LZ {h:Int} (hh:0≤h):ZE h=⟨sn h.toNat,cs h.toNat⟩∧ZE (h+1)=⟨sn (h.toNat+1),cs (h.toNat+1)⟩:=by
 obtain⟨k,rfl⟩:∃ k:Nat,h=k:=⟨h.toNat,by omega⟩
 unfold ZE
 simp only
 rw[show (k:Int)+1=((k+1:Nat):Int) by omega,M4,M5,M4,M5,aO]
 exact⟨rfl,rfl⟩
theorem FW {v:P} {h:Int} (hv:Ul v) (hh:0≤h∧h<4096):ZU (ZE h) v=cs h.toNat*v.X-sn h.toNat*v.Y∧ZU v (ZE (h+1))=v.Y*sn (h.toNat+1)-v.X*cs (h.toNat+1) ∧
  w64 ((w64 ((ZE h).X*v.X))+(w64 ((ZE h).Y*v.Y)))=sn h.toNat*v.X+cs h.toNat*v.Y:=by
 unfold Ul at hv
 rw[(LZ hh.1).1,(LZ hh.1).2]
 unfold ZU
 have a1:=Ui (FV h.toNat) ⟨hv.1,hv.2.1⟩
 have a2:=Ui (FU h.toNat) ⟨hv.1,hv.2.1⟩
 have a3:=Ui (FV h.toNat) hv.2.2
 have a4:=Ui (FU h.toNat) hv.2.2
 have a5:=Ui (FV (h.toNat+1)) ⟨hv.1,hv.2.1⟩
 have a6:=Ui (FU (h.toNat+1)) hv.2.2
 rw[dS _ v.X] at a5
 rw[dS _ v.Y] at a6
 simp only
 refine⟨?_,?_,?_⟩
 ·rw[Zt (x:=cs h.toNat*v.X) (by omega),Zt (x:=sn h.toNat*v.Y) (by omega),Zt (by omega)]
 ·rw[Zt (x:=v.Y*sn (h.toNat+1)) (by omega),Zt (x:=v.X*cs (h.toNat+1)) (by omega),Zt (by omega)]
 ·rw[Zt (x:=sn h.toNat*v.X) (by omega),Zt (x:=cs h.toNat*v.Y) (by omega),Zt (by omega)]
theorem TN {v:P} {h:Int} (hv:Ul v) (hh:0≤h∧h<4096):(((decide (ZU (ZE h) v≥0))&&(decide (ZU v (ZE (h+1))>0)))&&(decide ((w64 ((w64 ((ZE h).X*v.X))+(w64 ((ZE h).Y*v.Y))))>0)))=true↔Sec h.toNat v.X v.Y:=by
 obtain⟨e1,e2,e3⟩:=FW hv hh
 rw[e1,e2,e3,aX,aX,decide_eq_true_eq,decide_eq_true_eq,decide_eq_true_eq]
 unfold Sec
 exact and_assoc
theorem OJ {v:P} {h:Int} (hv:Ul v) (h0:¬ (v.X=0∧v.Y=0)) (hh:0≤h∧h<4096) (c:(((decide (ZU (ZE h) v≥0))&&(decide (ZU v (ZE (h+1))>0)))&&(decide ((w64 ((w64 ((ZE h).X*v.X))+(w64 ((ZE h).Y*v.Y))))>0)))=true) :
  ofF v=(if ZU (ZE h) v≤ZU v (ZE (h+1)) then h else Yo (h+1),0):=by
 have hs:=EO (by omega) ((TN hv hh).1 c)
 obtain⟨e1,e2,_⟩:=FW hv hh
 unfold Ul at hv
 unfold ofF
 rw[if_neg (by omega),if_neg h0,hs,e1,e2,GT]
 generalize cs h.toNat*v.X-sn h.toNat*v.Y=a
 generalize v.Y*sn (h.toNat+1)-v.X*cs (h.toNat+1)=b
 by_cases d:a≤b
 ·rw[if_pos d,if_pos d,bN hh.1]
 ·rw[if_neg d,if_neg d,show (((h.toNat+1)%4096:Nat):Int)=(h+1)%4096 by omega]
theorem Zaw {v:P} {h:Int} (hv:Ul v) (h0:¬ (v.X=0∧v.Y=0)) (hh:0≤h∧h<4096) (c:(((decide (ZU (ZE h) v≥0))&&(decide (ZU v (ZE (h+1))>0)))&&(decide ((w64 ((w64 ((ZE h).X*v.X))+(w64 ((ZE h).Y*v.Y))))>0)))=true)
  (d:decide (ZU (ZE h) v≤ZU v (ZE (h+1)))=true):h=(ofF v).1∧0=(ofF v).2:=by
 rw[OJ hv h0 hh c,if_pos (of_decide_eq_true d)];exact⟨rfl,rfl⟩
theorem Zax {v:P} {h:Int} (hv:Ul v) (h0:¬ (v.X=0∧v.Y=0)) (hh:0≤h∧h<4096) (c:(((decide (ZU (ZE h) v≥0))&&(decide (ZU v (ZE (h+1))>0)))&&(decide ((w64 ((w64 ((ZE h).X*v.X))+(w64 ((ZE h).Y*v.Y))))>0)))=true)
  (d:decide (ZU (ZE h) v≤ZU v (ZE (h+1)))=false):Yo (h+1)=(ofF v).1∧0=(ofF v).2:=by
 rw[OJ hv h0 hh c,if_neg (of_decide_eq_false d)];exact⟨rfl,rfl⟩
def Ft (g:Int) (j:Nat):Nat:=((if j%2=1 then g-j else g+j)%4096).toNat
def Uu (v:P) (g s:Int):Prop:=(0≤s∧s≤4096)∧∀ j:Nat,(j:Int)<s→¬ Sec (Ft g j) v.X v.Y
theorem TO {v:P} {g s h:Int} (hv:Ul v) (hi:Uu v g s) (hs:s<4096) (hh:(Ft g s.toNat:Int)=h) (c:(((decide (ZU (ZE h) v≥0))&&(decide (ZU v (ZE (h+1))>0)))&&(decide ((w64 ((w64 ((ZE h).X*v.X))+(w64 ((ZE h).Y*v.Y))))>0)))=false) :
  Uu v g (s+1):=by
 unfold Uu at hi ⊢
 refine⟨by omega,fun j hj=>?_⟩
 by_cases hjs:(j:Int)<s
 ·exact hi.2 j hjs
 ·intro hx
  have e:s.toNat=j:=by omega
  rw[e] at hh
  have l:Ft g j<4096:=by unfold Ft;omega
  rw[(TN hv (by omega)).2 (by rw[← hh,aO];exact hx)] at c
  cases c
theorem IX {v:P} {g s:Int} (hv:Ul v) (hi:Uu v g s) (hs:s<4096) (ho:(s.tmod 2==1)=true) (c:(((decide (ZU (ZE (Yo (g-s))) v≥0))&&(decide (ZU v (ZE (Yo (g-s)+1))>0)))&&(decide ((w64 ((w64 ((ZE (Yo (g-s))).X*v.X))+(w64 ((ZE (Yo (g-s))).Y*v.Y))))>0)))=false) :
  Uu v g (s+1):=by
 have o:=beq_iff_eq.1 ho
 rw[cP hi.1.1] at o
 have:=hi.1.1
 refine TO hv hi hs ?_ c
 rw[GT];unfold Ft
 rw[if_pos (by omega)];omega
theorem IY {v:P} {g s:Int} (hv:Ul v) (hi:Uu v g s) (hs:s<4096) (ho:(s.tmod 2==1)=false) (c:(((decide (ZU (ZE (Yo (g+s))) v≥0))&&(decide (ZU v (ZE (Yo (g+s)+1))>0)))&&(decide ((w64 ((w64 ((ZE (Yo (g+s))).X*v.X))+(w64 ((ZE (Yo (g+s))).Y*v.Y))))>0)))=false) :
  Uu v g (s+1):=by
 have o:=beq_eq_false_iff_ne.1 ho
 rw[cP hi.1.1] at o
 have:=hi.1.1
 refine TO hv hi hs ?_ c
 rw[GT];unfold Ft
 rw[if_neg (by omega)];omega
theorem Uw {v u w:P} {g h a b:Int} (hv:Ul v) (h0:¬ (v.X=0∧v.Y=0)) (hn:Yo g=h) (hu:ZE h=u) (hw:ZE (h+1)=w) (ha:ZU u v=a) (hb:ZU v w=b) (c:(((decide (a≥0))&&(decide (b>0)))&&(decide ((w64 ((w64 (u.X*v.X))+(w64 (u.Y*v.Y))))>0)))=true) (d:decide (a≤b)=true):h=(ofF v).1∧0=(ofF v).2:=by
 subst hu hw ha hb;exact Zaw hv h0 (Ys hn) c d
theorem Ux {v u w:P} {g h a b r:Int} (hv:Ul v) (h0:¬ (v.X=0∧v.Y=0)) (hn:Yo g=h) (hu:ZE h=u) (hw:ZE (h+1)=w) (ha:ZU u v=a) (hb:ZU v w=b) (c:(((decide (a≥0))&&(decide (b>0)))&&(decide ((w64 ((w64 (u.X*v.X))+(w64 (u.Y*v.Y))))>0)))=true) (d:decide (a≤b)=false) (hr:Yo (h+1)=r):r=(ofF v).1∧0=(ofF v).2:=by
 subst hu hw ha hb hr;exact Zax hv h0 (Ys hn) c d
theorem I0 {v u w:P} {g s h a b:Int} (hv:Ul v) (hi:Uu v g s) (hs:s<4096) (ho:(s.tmod 2==1)=true) (hn:Yo (g-s)=h) (hu:ZE h=u) (hw:ZE (h+1)=w) (ha:ZU u v=a) (hb:ZU v w=b) (c:(((decide (a≥0))&&(decide (b>0)))&&(decide ((w64 ((w64 (u.X*v.X))+(w64 (u.Y*v.Y))))>0)))=false):Uu v g (s+1):=by
 subst hn;subst hu hw ha hb;exact IX hv hi hs ho c
theorem I1 {v u w:P} {g s h a b:Int} (hv:Ul v) (hi:Uu v g s) (hs:s<4096) (ho:(s.tmod 2==1)=false) (hn:Yo (g+s)=h) (hu:ZE h=u) (hw:ZE (h+1)=w) (ha:ZU u v=a) (hb:ZU v w=b) (c:(((decide (a≥0))&&(decide (b>0)))&&(decide ((w64 ((w64 (u.X*v.X))+(w64 (u.Y*v.Y))))>0)))=false):Uu v g (s+1):=by
 subst hn;subst hu hw ha hb;exact IY hv hi hs ho c
theorem OK (v:P) (g:Int):Uu v g 0:=⟨by omega,fun j hj=>by omega⟩
theorem IZ {v:P} {g s:Int} (h0:¬ (v.X=0∧v.Y=0)) (hi:Uu v g s) (hs:¬ s<4096):False:=by
 obtain⟨h1,h2⟩:=B8 h0
 generalize W7 v.X v.Y=K at *
 obtain⟨e,he⟩:∃ e:Nat,((K:Int)-g)%4096=e:=⟨(((K:Int)-g)%4096).toNat,by omega⟩
 by_cases ho:e%2=1
 ·refine hi.2 (4096-e) (by omega) ?_
  have:Ft g (4096-e)=K:=by unfold Ft;rw[if_pos (by omega)];omega
  rw[this];exact h2
 ·refine hi.2 e (by omega) ?_
  have:Ft g e=K:=by unfold Ft;rw[if_neg ho];omega
  rw[this];exact h2
end Go.Sky
end
section
namespace Go.Sky
open Go Go.Eng Go.Proofs
set_option maxHeartbeats 4000000 in
theorem CH (v:P) (w:World) (hM:Sat ⟨w,XR []⟩ [] w) (hT:G8 w):Calls Tryz.prog 72 #[P.v v] w (JH (Γ:=Int×Int) ⟨w,XR []⟩ (fun g=>.tuple #[.int .i64 g.1,.int .i64 g.2]) (fun g=>[.inr (Qm (g.1=(ofF v).1∧g.2=(ofF v).2))])):=by
 refine YS (w0:=⟨w,XR []⟩) (vs:=[P.v v]) hM Tryz.func72 rfl Tryz.ntmps72 rfl (JG [(0,P.v v)] Kr (Zf (Vs 0 (fun b1=>[(1,.p0 b1)]) (fun b1=>[Bk b1 (P.c v) 36]) (fun b1=>{}) (fun b1=>TL.run 3 [] [(1,.p0 b1)] rfl {} (Z1 (TC.block (Zf (TL.run 4 [0] [(1,.p0 b1),(15,.b (decide (v.X<(-2000000))))] rfl {} (VS 15 (decide (v.X<(-2000000))) 8 [] [0] (fun β=>[(1,.p0 b1),(19,.b (β||(decide (v.X>2000000))))]) Kr rfl {} {} (TL.run 9 [] [(1,.p0 b1),(20,.b ((decide (v.X<(-2000000)))||(decide (v.X>2000000))))] rfl {} (VS 20 ((decide (v.X<(-2000000)))||(decide (v.X>2000000))) 13 [] [0] (fun β=>[(1,.p0 b1),(24,.b (β||(decide (v.Y<(-2000000)))))]) Kr rfl {} {} (TL.run 14 [] [(1,.p0 b1),(25,.b (((decide (v.X<(-2000000)))||(decide (v.X>2000000)))||(decide (v.Y<(-2000000)))))] rfl {} (VS 25 (((decide (v.X<(-2000000)))||(decide (v.X>2000000)))||(decide (v.Y<(-2000000)))) 18 [] [0] (fun β=>[(1,.p0 b1),(29,.b (β||(decide (v.Y>2000000))))]) Kr rfl {} {} (TL.run 19 [] [(1,.p0 b1),(11,.b ((((decide (v.X<(-2000000)))||(decide (v.X>2000000)))||(decide (v.Y<(-2000000))))||(decide (v.Y>2000000))))] rfl {} (Zb rfl (TC.cond ((((decide (v.X<(-2000000)))||(decide (v.X>2000000)))||(decide (v.Y<(-2000000))))||(decide (v.Y>2000000))) rfl Kr (fun h1=>?_) (fun h1=>?_)))))))))))))))))
 ·refine Zf (TL.run 2 [] [(2,.i 0),(3,.i 4)] rfl {} (Zb rfl (TC.ret (ZL (Zo ?_)))))
  exact ZO (.inl rfl) (0,4) [] (.tuple #[.i 0,.i 4]) {} rfl (fun _ hM=>(hM.sub (sb 0)).fact (by have q0_:=((UP h1).imp (fun h=>((UP h).imp (fun h=>((UP h).imp (fun h=>(ZF h)) (fun h=>(ZF h)))) (fun h=>(ZF h)))) (fun h=>(ZF h)));(try have bq_:=qt);(try have n3_:=Ys hr3);(try have n4_:=Ys hr4);(try dsimp only);first|exact W8 (by omega)|exact Ut (X5 h1) (by omega)|exact Ux (X5 h1) (Q6 h2) hr4 hr5 hr6 hr7 hr8 h5 h6 hr9|exact Ux (X5 h1) (Q6 h2) hr3 js ju kb kj h7 h8 yu|exact Uw (X5 h1) (Q6 h2) hr4 hr5 hr6 hr7 hr8 h5 h6|exact Uw (X5 h1) (Q6 h2) hr3 js ju kb kj h7 h8|exact False.elim ho0))
 ·refine Zf (TL.run 4 [0] [(1,.p0 b1),(34,.b (v.X==0))] rfl {} (VS 34 (v.X==0) 8 [0] [] (fun β=>[(1,.p0 b1),(38,.b (β&&(v.Y==0)))]) Kr rfl {} {} (TL.run 9 [] [(1,.p0 b1),(30,.b ((v.X==0)&&(v.Y==0)))] rfl {} (Zb rfl (TC.cond ((v.X==0)&&(v.Y==0)) rfl Kr (fun h2=>?_) (fun h2=>?_))))))
  ·refine Zf (TL.run 2 [] [(2,.i 0),(3,.i 10)] rfl {} (Zb rfl (TC.ret (ZL (Zo ?_)))))
   exact ZO (.inl rfl) (0,10) [] (.tuple #[.i 0,.i 10]) {} rfl (fun _ hM=>(hM.sub (sb 0)).fact (by have q0_:=(Zv (Z2 (Z2 (Z2 h1))));have q1_:=(Zv (Ye (Z2 (Z2 h1))));have q2_:=(Zv (Ye (Z2 h1)));have q3_:=(Zv (Ye h1));have q4_:=(YT (Js h2));have q5_:=(YT (K4 h2));(try have bq_:=qt);(try have n3_:=Ys hr3);(try have n4_:=Ys hr4);(try dsimp only);first|exact W8 (by omega)|exact Ut (X5 h1) (by omega)|exact Ux (X5 h1) (Q6 h2) hr4 hr5 hr6 hr7 hr8 h5 h6 hr9|exact Ux (X5 h1) (Q6 h2) hr3 js ju kb kj h7 h8 yu|exact Uw (X5 h1) (Q6 h2) hr4 hr5 hr6 hr7 hr8 h5 h6|exact Uw (X5 h1) (Q6 h2) hr3 js ju kb kj h7 h8|exact False.elim ho0))
  ·refine TC.skip (ZY (YC (TL.run 6 [0,0] [(1,.p0 b1),(41,.fl (dbl v.X)),(44,.fl (dbl v.Y))] rfl {} (Qy (Γ:=Nat) (fun g=>.fl g) (fun g=>[.inr (Qm (Bd 46 g))]) [] [Bk b1 (P.c v) 36] (some 45) (fun g=>[(1,.p0 b1),(45,.fl g)]) (fun w hM=>Mc (dbl v.X) (dbl v.Y) w hM.pass (by have q0_:=(Zv (Z2 (Z2 (Z2 h1))));have q1_:=(Zv (Ye (Z2 (Z2 h1))));have q2_:=(Zv (Ye (Z2 h1)));have q3_:=(Zv (Ye h1));have q4_:=((Qr h2).imp (fun h=>(Yl h)) (fun h=>(Yl h)));(try have bq_:=qt);(try have n3_:=Ys hr3);(try have n4_:=Ys hr4);exact⟨v.X,by omega,rfl⟩) (by have q0_:=(Zv (Z2 (Z2 (Z2 h1))));have q1_:=(Zv (Ye (Z2 (Z2 h1))));have q2_:=(Zv (Ye (Z2 h1)));have q3_:=(Zv (Ye h1));have q4_:=((Qr h2).imp (fun h=>(Yl h)) (fun h=>(Yl h)));(try have bq_:=qt);(try have n3_:=Ys hr3);(try have n4_:=Ys hr4);exact⟨v.Y,by omega,rfl⟩)) Kr (fun g=>Kr) ?_))))
   rintro r_
   refine Xm [.inr (Qm (Bd 46 r_)),Bk b1 (P.c v) 36] (fun _ hM=>hM) (Y3 (fun w hM=>hM.fact_at 0 rfl) (fun qt=>X2 [Bk b1 (P.c v) 36] (.cons _ (aB _)) (ZW (sV (binOp .mul 215 (.fl r_) (.fl 4656722014701092864))) (some 46) (.fl (Zh r_ 4656722014701092864)) [(1,.p0 b1),(46,.fl (Zh r_ 4656722014701092864))] (fun w hM=>Y9 (by have q0_:=(Zv (Z2 (Z2 (Z2 h1))));have q1_:=(Zv (Ye (Z2 (Z2 h1))));have q2_:=(Zv (Ye (Z2 h1)));have q3_:=(Zv (Ye h1));have q4_:=((Qr h2).imp (fun h=>(Yl h)) (fun h=>(Yl h)));(try have bq_:=qt);(try have n3_:=Ys hr3);(try have n4_:=Ys hr4);exact fmS)) Kr Kr (ZW (sV (binOp .quo 215 (.fl (Zh r_ 4656722014701092864)) (.fl 4614256656552045848))) (some 47) (.fl (pQ6 r_)) [(1,.p0 b1),(47,.fl (pQ6 r_))] (fun w hM=>UJ (by have q0_:=(Zv (Z2 (Z2 (Z2 h1))));have q1_:=(Zv (Ye (Z2 (Z2 h1))));have q2_:=(Zv (Ye (Z2 h1)));have q3_:=(Zv (Ye h1));have q4_:=((Qr h2).imp (fun h=>(Yl h)) (fun h=>(Yl h)));(try have bq_:=qt);(try have n3_:=Ys hr3);(try have n4_:=Ys hr4);exact fdS)) Kr Kr (TL.call (some 48) [(1,.p0 b1),(48,.fl (V2 (pQ6 r_)))] (fun w _=>M6 (pQ6 r_) w (by have q0_:=(Zv (Z2 (Z2 (Z2 h1))));have q1_:=(Zv (Ye (Z2 (Z2 h1))));have q2_:=(Zv (Ye (Z2 h1)));have q3_:=(Zv (Ye h1));have q4_:=((Qr h2).imp (fun h=>(Yl h)) (fun h=>(Yl h)));(try have bq_:=qt);(try have n3_:=Ys hr3);(try have n4_:=Ys hr4);exact Qz)) Kr Kr ?_)))))
   generalize hr1:V2 (pQ6 r_)=r1
   refine ZW (sV (convert 215 3 (.fl r1))) (some 49) (.i (f2i r1)) [(1,.p0 b1),(49,.i (f2i r1))] (fun w hM=>NN Kr Kr (by have q0_:=(Zv (Z2 (Z2 (Z2 h1))));have q1_:=(Zv (Ye (Z2 (Z2 h1))));have q2_:=(Zv (Ye (Z2 h1)));have q3_:=(Zv (Ye h1));have q4_:=((Qr h2).imp (fun h=>(Yl h)) (fun h=>(Yl h)));(try have bq_:=qt);(try have n3_:=Ys hr3);(try have n4_:=Ys hr4);have b_:=LY hr1;exact EC (e:=58))) Kr Kr (TL.run 12 [] [(1,.p0 b1),(4,.i (f2i r1))] rfl {} ?_)
   generalize hr2:f2i r1=r2
   have g_:=OI qt hr1 hr2;clear hr1 hr2 qt
   refine Z1 (Zf (TL.run 1 [] [(1,.p0 b1),(4,.i r2),(50,.i 0)] rfl {} (Zb rfl (JG [(1,.p0 b1),(4,.i r2),(50,.i 0)] Kr (TC.cut (S:=Unit) (fun (_:Unit)=>[]) (fun (_:Unit)=>[Bk b1 (P.c v) 36]) (fun (_:Unit)=>(False)) ?_ ?_)))))
   ·refine TC.block (TC.loop (X:=Int) (fun s=>[(1,.p0 b1),(4,.i r2),(50,.i s)]) (fun s=>[Bk b1 (P.c v) 36]) (fun s=>(4096-s).toNat) (fun s=>(Uu v r2 s)) ?_ 0 (by have q0_:=(Zv (Z2 (Z2 (Z2 h1))));have q1_:=(Zv (Ye (Z2 (Z2 h1))));have q2_:=(Zv (Ye (Z2 h1)));have q3_:=(Zv (Ye h1));have q4_:=((Qr h2).imp (fun h=>(Yl h)) (fun h=>(Yl h)));(try have bq_:=qt);(try have n3_:=Ys hr3);(try have n4_:=Ys hr4);first|exact OK _ _))
    rintro s hv0
    refine Zf (TL.run 1 [] [(1,.p0 b1),(4,.i r2),(50,.i s),(51,.b (decide (s<4096)))] rfl {} (Z1 (TC.cond (decide (s<4096)) rfl Kr (fun h3=>?_) (fun h3=>?_))))
    ·refine Yg (TC.seq (TC.block (Zf (TL.run 2 [] [(1,.p0 b1),(4,.i r2),(5,.i s),(50,.i s)] rfl {} (Zz (TL.run 3 [] [(1,.p0 b1),(4,.i r2),(5,.i s),(50,.i s),(55,.i (w64 (r2+s)))] rfl {} (TL.rw 55 (.i (w64 (r2+s))) (.i (r2+s)) Kr (int_eq (by have q0_:=(Zv (Z2 (Z2 (Z2 h1))));have q1_:=(Zv (Ye (Z2 (Z2 h1))));have q2_:=(Zv (Ye (Z2 h1)));have q3_:=(Zv (Ye h1));have q4_:=((Qr h2).imp (fun h=>(Yl h)) (fun h=>(Yl h)));have q5_:=(ZF h3);(try have bq_:=qt);(try have n3_:=Ys hr3);(try have n4_:=Ys hr4);have yi:=hv0.1;rw[Zt (x:=(r2+s)) (by omega)])) (TL.call (some 56) [(1,.p0 b1),(4,.i r2),(5,.i s),(50,.i s),(56,.i (Yo (r2+s)))] (fun w _=>KO (r2+s) w) Kr Kr ?_))))))))
     generalize hr3:Yo (r2+s)=r3
     refine TL.run 5 [] [(1,.p0 b1),(4,.i r2),(5,.i s),(6,.i r3),(50,.i s)] rfl {} (Z1 (Zf (TL.run 3 [] [(1,.p0 b1),(4,.i r2),(5,.i s),(6,.i r3),(50,.i s),(59,.b ((s.tmod 2)==1))] rfl {} (Zb rfl (TC.cond ((s.tmod 2)==1) rfl Kr (fun h4=>?_) (fun h4=>?_))))))
     ·refine TC.region (TL.run 3 [] [(1,.p0 b1),(4,.i r2),(50,.i s),(62,.i (w64 (r2-s)))] rfl {} (TL.rw 62 (.i (w64 (r2-s))) (.i (r2-s)) Kr (int_eq (by have q0_:=(Zv (Z2 (Z2 (Z2 h1))));have q1_:=(Zv (Ye (Z2 (Z2 h1))));have q2_:=(Zv (Ye (Z2 h1)));have q3_:=(Zv (Ye h1));have q4_:=((Qr h2).imp (fun h=>(Yl h)) (fun h=>(Yl h)));have q5_:=(ZF h3);have q6_:=(YT h4);(try have bq_:=qt);(try have n3_:=Ys hr3);(try have n4_:=Ys hr4);have yi:=hv0.1;rw[Zt (x:=(r2-s)) (by omega)])) (TL.call (some 63) [(1,.p0 b1),(4,.i r2),(50,.i s),(63,.i (Yo (r2-s)))] (fun w _=>KO (r2-s) w) Kr Kr ?_)))
      generalize hr4:Yo (r2-s)=r4
      refine TL.run 5 [] [(1,.p0 b1),(4,.i r2),(6,.i r4),(50,.i s)] rfl {} (Zz (TL.run 1 [] [(1,.p0 b1),(4,.i r2),(6,.i r4),(50,.i s),(64,.i r4)] rfl {} (TL.call (some 65) [(1,.p0 b1),(4,.i r2),(6,.i r4),(50,.i s),(65,P.v (ZE r4))] (fun w hM=>VP r4 w (hT.sat hM)) Kr Kr ?_)))
      generalize hr5:ZE r4=r5
      refine TL.run 4 [] [(1,.p0 b1),(4,.i r2),(6,.i r4),(50,.i s),(65,P.v r5),(67,.i (w64 (r4+1)))] rfl {} (TL.rw 67 (.i (w64 (r4+1))) (.i (r4+1)) Kr (int_eq (by have q0_:=(Zv (Z2 (Z2 (Z2 h1))));have q1_:=(Zv (Ye (Z2 (Z2 h1))));have q2_:=(Zv (Ye (Z2 h1)));have q3_:=(Zv (Ye h1));have q4_:=((Qr h2).imp (fun h=>(Yl h)) (fun h=>(Yl h)));have q5_:=(ZF h3);have q6_:=(YT h4);(try have bq_:=qt);(try have n3_:=Ys hr3);(try have n4_:=Ys hr4);have yi:=hv0.1;rw[Zt (x:=(r4+1)) (by omega)])) (TL.call (some 68) [(1,.p0 b1),(4,.i r2),(6,.i r4),(50,.i s),(65,P.v r5),(68,P.v (ZE (r4+1)))] (fun w hM=>VP (r4+1) w (hT.sat hM)) Kr Kr ?_))
      generalize hr6:ZE (r4+1)=r6
      refine Vs 0 (fun b2=>[(1,.p0 b1),(4,.i r2),(6,.i r4),(7,.p0 b2),(50,.i s),(65,P.v r5),(68,P.v r6)]) (fun b2=>[Bk b2 (P.c P.zero) 36,Bk b1 (P.c v) 36]) (fun b2=>{}) (fun b2=>Vs 0 (fun b3=>[(1,.p0 b1),(4,.i r2),(6,.i r4),(7,.p0 b2),(8,.p0 b3),(50,.i s),(65,P.v r5),(68,P.v r6)]) (fun b3=>[Bk b3 (P.c P.zero) 36,Bk b2 (P.c P.zero) 36,Bk b1 (P.c v) 36]) (fun b3=>{}) (fun b3=>Vs 1 (fun _=>[(1,.p0 b1),(4,.i r2),(6,.i r4),(7,.p0 b2),(8,.p0 b3),(50,.i s),(68,P.v r6)]) (fun _=>[Bk b3 (P.c P.zero) 36,Bk b2 (P.c r5) 36,Bk b1 (P.c v) 36]) (fun _=>{}) (fun _=>Vs 0 (fun _=>[(1,.p0 b1),(4,.i r2),(6,.i r4),(7,.p0 b2),(8,.p0 b3),(50,.i s)]) (fun _=>[Bk b3 (P.c r6) 36,Bk b2 (P.c r5) 36,Bk b1 (P.c v) 36]) (fun _=>{}) (fun _=>Z1 (Kx 8 Kr Kr Kr (TQ.run 2 [1,2] [(1,.p0 b1),(4,.i r2),(6,.i r4),(7,.p0 b2),(8,.p0 b3),(50,.i s),(69,P.v r5),(70,P.v v)] rfl {} (TQ.call (some 71) [(1,.p0 b1),(4,.i r2),(6,.i r4),(7,.p0 b2),(8,.p0 b3),(50,.i s),(71,.i (ZU r5 v))] (fun w _=>V7 r5 v w) rfl Kr Kr ?_)))))))
      generalize hr7:ZU r5 v=r7
      refine TQ.run 5 [2,0] [(1,.p0 b1),(4,.i r2),(6,.i r4),(7,.p0 b2),(50,.i s),(71,.i r7),(72,P.v v),(73,P.v r6)] rfl {} (TQ.call (some 74) [(1,.p0 b1),(4,.i r2),(6,.i r4),(7,.p0 b2),(50,.i s),(71,.i r7),(74,.i (ZU v r6))] (fun w _=>V7 v r6 w) rfl Kr Kr ?_)
      generalize hr8:ZU v r6=r8
      refine TQ.run 8 [] [(1,.p0 b1),(4,.i r2),(6,.i r4),(7,.p0 b2),(9,.i r7),(10,.i r8),(50,.i s)] rfl {} (Q1 rfl (Zf (TL.run 3 [] [(1,.p0 b1),(4,.i r2),(6,.i r4),(7,.p0 b2),(9,.i r7),(10,.i r8),(50,.i s),(77,.b (decide (r7≥0)))] rfl {} (VS 77 (decide (r7≥0)) 6 [] [] (fun β=>[(1,.p0 b1),(4,.i r2),(6,.i r4),(7,.p0 b2),(9,.i r7),(10,.i r8),(50,.i s),(80,.b (β&&(decide (r8>0))))]) Kr rfl {} {} (TL.run 7 [] [(1,.p0 b1),(4,.i r2),(6,.i r4),(7,.p0 b2),(9,.i r7),(10,.i r8),(50,.i s),(81,.b ((decide (r7≥0))&&(decide (r8>0))))] rfl {} (VS 81 ((decide (r7≥0))&&(decide (r8>0))) 20 [1,2,1,2] [] (fun β=>[(1,.p0 b1),(4,.i r2),(6,.i r4),(9,.i r7),(10,.i r8),(50,.i s),(94,.b (β&&(decide ((w64 ((w64 (r5.X*v.X))+(w64 (r5.Y*v.Y))))>0))))]) Kr rfl {} {} (Zb rfl (TC.cond (((decide (r7≥0))&&(decide (r8>0)))&&(decide ((w64 ((w64 (r5.X*v.X))+(w64 (r5.Y*v.Y))))>0))) rfl Kr (fun h5=>?_) (fun h5=>?_)))))))))
      ·refine TC.seq (Zf (TL.run 3 [] [(6,.i r4),(97,.b (decide (r7≤r8)))] rfl {} (Zb rfl (TC.cond (decide (r7≤r8)) rfl Kr (fun h6=>?_) (fun h6=>?_)))))
       ·refine Zf (TL.run 3 [] [(2,.i r4),(3,.i 0)] rfl {} (Zb rfl (TC.ret (Zo (ZL (Zo (Zo (ZL (Zo (Zo ?_))))))))))
        exact ZO (.inl rfl) (r4,0) [] (.tuple #[.i r4,.i 0]) {} rfl (fun _ hM=>(hM.sub (sb 0)).fact (by have q0_:=(Zv (Z2 (Z2 (Z2 h1))));have q1_:=(Zv (Ye (Z2 (Z2 h1))));have q2_:=(Zv (Ye (Z2 h1)));have q3_:=(Zv (Ye h1));have q4_:=((Qr h2).imp (fun h=>(Yl h)) (fun h=>(Yl h)));have q5_:=(ZF h3);have q6_:=(YT h4);have q7_:=(ZF (Js (Js h5)));have q8_:=(ZF (K4 (Js h5)));have q9_:=(ZF (K4 h5));have s7:=(ZF h6);(try have bq_:=qt);(try have n3_:=Ys hr3);(try have n4_:=Ys hr4);have yi:=hv0.1;(try dsimp only);first|exact W8 (by omega)|exact Ut (X5 h1) (by omega)|exact Ux (X5 h1) (Q6 h2) hr4 hr5 hr6 hr7 hr8 h5 h6 hr9|exact Ux (X5 h1) (Q6 h2) hr3 js ju kb kj h7 h8 yu|exact Uw (X5 h1) (Q6 h2) hr4 hr5 hr6 hr7 hr8 h5 h6|exact Uw (X5 h1) (Q6 h2) hr3 js ju kb kj h7 h8|exact False.elim ho0))
       ·refine Yc (TL.run 2 [] [(100,.i (w64 (r4+1)))] rfl {} (TL.rw 100 (.i (w64 (r4+1))) (.i (r4+1)) Kr (int_eq (by have q0_:=(Zv (Z2 (Z2 (Z2 h1))));have q1_:=(Zv (Ye (Z2 (Z2 h1))));have q2_:=(Zv (Ye (Z2 h1)));have q3_:=(Zv (Ye h1));have q4_:=((Qr h2).imp (fun h=>(Yl h)) (fun h=>(Yl h)));have q5_:=(ZF h3);have q6_:=(YT h4);have q7_:=(ZF (Js (Js h5)));have q8_:=(ZF (K4 (Js h5)));have q9_:=(ZF (K4 h5));have s7:=(Zv h6);(try have bq_:=qt);(try have n3_:=Ys hr3);(try have n4_:=Ys hr4);have yi:=hv0.1;rw[Zt (x:=(r4+1)) (by omega)])) (TL.call (some 101) [(101,.i (Yo (r4+1)))] (fun w _=>KO (r4+1) w) Kr Kr ?_)))
        generalize hr9:Yo (r4+1)=r9
        refine TL.run 5 [] [(2,.i r9),(3,.i 0)] rfl {} (Zb rfl (TC.ret (ZL (Zo (Zo (ZL (Zo (Zo ?_))))))))
        exact ZO (.inl rfl) (r9,0) [] (.tuple #[.i r9,.i 0]) {} rfl (fun _ hM=>(hM.sub (sb 0)).fact (by have q0_:=(Zv (Z2 (Z2 (Z2 h1))));have q1_:=(Zv (Ye (Z2 (Z2 h1))));have q2_:=(Zv (Ye (Z2 h1)));have q3_:=(Zv (Ye h1));have q4_:=((Qr h2).imp (fun h=>(Yl h)) (fun h=>(Yl h)));have q5_:=(ZF h3);have q6_:=(YT h4);have q7_:=(ZF (Js (Js h5)));have q8_:=(ZF (K4 (Js h5)));have q9_:=(ZF (K4 h5));have s7:=(Zv h6);(try have bq_:=qt);(try have n3_:=Ys hr3);(try have n4_:=Ys hr4);have yi:=hv0.1;(try dsimp only);first|exact W8 (by omega)|exact Ut (X5 h1) (by omega)|exact Ux (X5 h1) (Q6 h2) hr4 hr5 hr6 hr7 hr8 h5 h6 hr9|exact Ux (X5 h1) (Q6 h2) hr3 js ju kb kj h7 h8 yu|exact Uw (X5 h1) (Q6 h2) hr4 hr5 hr6 hr7 hr8 h5 h6|exact Uw (X5 h1) (Q6 h2) hr3 js ju kb kj h7 h8|exact False.elim ho0))
      ·exact TC.skip (ZY (Z3 (TC.region (TL.run 2 [] [(1,.p0 b1),(4,.i r2),(50,.i (w64 (s+1)))] rfl {} (TL.rw 50 (.i (w64 (s+1))) (.i (s+1)) Kr (int_eq (by have q0_:=(Zv (Z2 (Z2 (Z2 h1))));have q1_:=(Zv (Ye (Z2 (Z2 h1))));have q2_:=(Zv (Ye (Z2 h1)));have q3_:=(Zv (Ye h1));have q4_:=((Qr h2).imp (fun h=>(Yl h)) (fun h=>(Yl h)));have q5_:=(ZF h3);have q6_:=(YT h4);have q7_:=((Qr h5).imp (fun h=>((Qr h).imp (fun h=>(Zv h)) (fun h=>(Zv h)))) (fun h=>(Zv h)));(try have bq_:=qt);(try have n3_:=Ys hr3);(try have n4_:=Ys hr4);have yi:=hv0.1;rw[Zt (x:=(s+1)) (by omega)])) (Zw rfl (Z4 (x:=s) (s+1) (by have q0_:=(Zv (Z2 (Z2 (Z2 h1))));have q1_:=(Zv (Ye (Z2 (Z2 h1))));have q2_:=(Zv (Ye (Z2 h1)));have q3_:=(Zv (Ye h1));have q4_:=((Qr h2).imp (fun h=>(Yl h)) (fun h=>(Yl h)));have q5_:=(ZF h3);have q6_:=(YT h4);have q7_:=((Qr h5).imp (fun h=>((Qr h).imp (fun h=>(Zv h)) (fun h=>(Zv h)))) (fun h=>(Zv h)));(try have bq_:=qt);(try have n3_:=Ys hr3);(try have n4_:=Ys hr4);have yi:=hv0.1;first|exact I0 (X5 h1) hv0 (of_decide_eq_true h3) h4 hr4 hr5 hr6 hr7 hr8 h5|exact I1 (X5 h1) hv0 (of_decide_eq_true h3) h4 hr3 js ju kb kj h7) (by have q0_:=(Zv (Z2 (Z2 (Z2 h1))));have q1_:=(Zv (Ye (Z2 (Z2 h1))));have q2_:=(Zv (Ye (Z2 h1)));have q3_:=(Zv (Ye h1));have q4_:=((Qr h2).imp (fun h=>(Yl h)) (fun h=>(Yl h)));have q5_:=(ZF h3);have q6_:=(YT h4);have q7_:=((Qr h5).imp (fun h=>((Qr h).imp (fun h=>(Zv h)) (fun h=>(Zv h)))) (fun h=>(Zv h)));(try have bq_:=qt);(try have n3_:=Ys hr3);(try have n4_:=Ys hr4);have yi:=hv0.1;(try clear hr4);(try clear hr3);(try clear hr5);(try clear hr6);(try clear hr7);(try clear hr8);(try clear hr9);(try clear js);(try clear ju);(try clear kb);(try clear kj);(try clear yu); omega) Kr (sb 4))))))))
     ·refine Yc (TL.run 1 [] [(1,.p0 b1),(4,.i r2),(6,.i r3),(50,.i s),(64,.i r3)] rfl {} (TL.call (some 65) [(1,.p0 b1),(4,.i r2),(6,.i r3),(50,.i s),(65,P.v (ZE r3))] (fun w hM=>VP r3 w (hT.sat hM)) Kr Kr ?_))
      generalize js:ZE r3=r10
      refine TL.run 4 [] [(1,.p0 b1),(4,.i r2),(6,.i r3),(50,.i s),(65,P.v r10),(67,.i (w64 (r3+1)))] rfl {} (TL.rw 67 (.i (w64 (r3+1))) (.i (r3+1)) Kr (int_eq (by have q0_:=(Zv (Z2 (Z2 (Z2 h1))));have q1_:=(Zv (Ye (Z2 (Z2 h1))));have q2_:=(Zv (Ye (Z2 h1)));have q3_:=(Zv (Ye h1));have q4_:=((Qr h2).imp (fun h=>(Yl h)) (fun h=>(Yl h)));have q5_:=(ZF h3);have q6_:=(Yl h4);(try have bq_:=qt);(try have n3_:=Ys hr3);(try have n4_:=Ys hr4);have yi:=hv0.1;rw[Zt (x:=(r3+1)) (by omega)])) (TL.call (some 68) [(1,.p0 b1),(4,.i r2),(6,.i r3),(50,.i s),(65,P.v r10),(68,P.v (ZE (r3+1)))] (fun w hM=>VP (r3+1) w (hT.sat hM)) Kr Kr ?_))
      generalize ju:ZE (r3+1)=r11
      refine Vs 0 (fun b4=>[(1,.p0 b1),(4,.i r2),(6,.i r3),(7,.p0 b4),(50,.i s),(65,P.v r10),(68,P.v r11)]) (fun b4=>[Bk b4 (P.c P.zero) 36,Bk b1 (P.c v) 36]) (fun b4=>{}) (fun b4=>Vs 0 (fun b5=>[(1,.p0 b1),(4,.i r2),(6,.i r3),(7,.p0 b4),(8,.p0 b5),(50,.i s),(65,P.v r10),(68,P.v r11)]) (fun b5=>[Bk b5 (P.c P.zero) 36,Bk b4 (P.c P.zero) 36,Bk b1 (P.c v) 36]) (fun b5=>{}) (fun b5=>Vs 1 (fun _=>[(1,.p0 b1),(4,.i r2),(6,.i r3),(7,.p0 b4),(8,.p0 b5),(50,.i s),(68,P.v r11)]) (fun _=>[Bk b5 (P.c P.zero) 36,Bk b4 (P.c r10) 36,Bk b1 (P.c v) 36]) (fun _=>{}) (fun _=>Vs 0 (fun _=>[(1,.p0 b1),(4,.i r2),(6,.i r3),(7,.p0 b4),(8,.p0 b5),(50,.i s)]) (fun _=>[Bk b5 (P.c r11) 36,Bk b4 (P.c r10) 36,Bk b1 (P.c v) 36]) (fun _=>{}) (fun _=>Z1 (Kx 8 Kr Kr Kr (TQ.run 2 [1,2] [(1,.p0 b1),(4,.i r2),(6,.i r3),(7,.p0 b4),(8,.p0 b5),(50,.i s),(69,P.v r10),(70,P.v v)] rfl {} (TQ.call (some 71) [(1,.p0 b1),(4,.i r2),(6,.i r3),(7,.p0 b4),(8,.p0 b5),(50,.i s),(71,.i (ZU r10 v))] (fun w _=>V7 r10 v w) rfl Kr Kr ?_)))))))
      generalize kb:ZU r10 v=r12
      refine TQ.run 5 [2,0] [(1,.p0 b1),(4,.i r2),(6,.i r3),(7,.p0 b4),(50,.i s),(71,.i r12),(72,P.v v),(73,P.v r11)] rfl {} (TQ.call (some 74) [(1,.p0 b1),(4,.i r2),(6,.i r3),(7,.p0 b4),(50,.i s),(71,.i r12),(74,.i (ZU v r11))] (fun w _=>V7 v r11 w) rfl Kr Kr ?_)
      generalize kj:ZU v r11=r13
      refine TQ.run 8 [] [(1,.p0 b1),(4,.i r2),(6,.i r3),(7,.p0 b4),(9,.i r12),(10,.i r13),(50,.i s)] rfl {} (Q1 rfl (Zf (TL.run 3 [] [(1,.p0 b1),(4,.i r2),(6,.i r3),(7,.p0 b4),(9,.i r12),(10,.i r13),(50,.i s),(77,.b (decide (r12≥0)))] rfl {} (VS 77 (decide (r12≥0)) 6 [] [] (fun β=>[(1,.p0 b1),(4,.i r2),(6,.i r3),(7,.p0 b4),(9,.i r12),(10,.i r13),(50,.i s),(80,.b (β&&(decide (r13>0))))]) Kr rfl {} {} (TL.run 7 [] [(1,.p0 b1),(4,.i r2),(6,.i r3),(7,.p0 b4),(9,.i r12),(10,.i r13),(50,.i s),(81,.b ((decide (r12≥0))&&(decide (r13>0))))] rfl {} (VS 81 ((decide (r12≥0))&&(decide (r13>0))) 20 [1,2,1,2] [] (fun β=>[(1,.p0 b1),(4,.i r2),(6,.i r3),(9,.i r12),(10,.i r13),(50,.i s),(94,.b (β&&(decide ((w64 ((w64 (r10.X*v.X))+(w64 (r10.Y*v.Y))))>0))))]) Kr rfl {} {} (Zb rfl (TC.cond (((decide (r12≥0))&&(decide (r13>0)))&&(decide ((w64 ((w64 (r10.X*v.X))+(w64 (r10.Y*v.Y))))>0))) rfl Kr (fun h7=>?_) (fun h7=>?_)))))))))
      ·refine TC.seq (Zf (TL.run 3 [] [(6,.i r3),(97,.b (decide (r12≤r13)))] rfl {} (Zb rfl (TC.cond (decide (r12≤r13)) rfl Kr (fun h8=>?_) (fun h8=>?_)))))
       ·refine Zf (TL.run 3 [] [(2,.i r3),(3,.i 0)] rfl {} (Zb rfl (TC.ret (Zo (ZL (Zo (Zo (ZL (Zo (Zo ?_))))))))))
        exact ZO (.inl rfl) (r3,0) [] (.tuple #[.i r3,.i 0]) {} rfl (fun _ hM=>(hM.sub (sb 0)).fact (by have q0_:=(Zv (Z2 (Z2 (Z2 h1))));have q1_:=(Zv (Ye (Z2 (Z2 h1))));have q2_:=(Zv (Ye (Z2 h1)));have q3_:=(Zv (Ye h1));have q4_:=((Qr h2).imp (fun h=>(Yl h)) (fun h=>(Yl h)));have q5_:=(ZF h3);have q6_:=(Yl h4);have q7_:=(ZF (Js (Js h7)));have q8_:=(ZF (K4 (Js h7)));have q9_:=(ZF (K4 h7));have s7:=(ZF h8);(try have bq_:=qt);(try have n3_:=Ys hr3);(try have n4_:=Ys hr4);have yi:=hv0.1;(try dsimp only);first|exact W8 (by omega)|exact Ut (X5 h1) (by omega)|exact Ux (X5 h1) (Q6 h2) hr4 hr5 hr6 hr7 hr8 h5 h6 hr9|exact Ux (X5 h1) (Q6 h2) hr3 js ju kb kj h7 h8 yu|exact Uw (X5 h1) (Q6 h2) hr4 hr5 hr6 hr7 hr8 h5 h6|exact Uw (X5 h1) (Q6 h2) hr3 js ju kb kj h7 h8|exact False.elim ho0))
       ·refine Yc (TL.run 2 [] [(100,.i (w64 (r3+1)))] rfl {} (TL.rw 100 (.i (w64 (r3+1))) (.i (r3+1)) Kr (int_eq (by have q0_:=(Zv (Z2 (Z2 (Z2 h1))));have q1_:=(Zv (Ye (Z2 (Z2 h1))));have q2_:=(Zv (Ye (Z2 h1)));have q3_:=(Zv (Ye h1));have q4_:=((Qr h2).imp (fun h=>(Yl h)) (fun h=>(Yl h)));have q5_:=(ZF h3);have q6_:=(Yl h4);have q7_:=(ZF (Js (Js h7)));have q8_:=(ZF (K4 (Js h7)));have q9_:=(ZF (K4 h7));have s7:=(Zv h8);(try have bq_:=qt);(try have n3_:=Ys hr3);(try have n4_:=Ys hr4);have yi:=hv0.1;rw[Zt (x:=(r3+1)) (by omega)])) (TL.call (some 101) [(101,.i (Yo (r3+1)))] (fun w _=>KO (r3+1) w) Kr Kr ?_)))
        generalize yu:Yo (r3+1)=r14
        refine TL.run 5 [] [(2,.i r14),(3,.i 0)] rfl {} (Zb rfl (TC.ret (ZL (Zo (Zo (ZL (Zo (Zo ?_))))))))
        exact ZO (.inl rfl) (r14,0) [] (.tuple #[.i r14,.i 0]) {} rfl (fun _ hM=>(hM.sub (sb 0)).fact (by have q0_:=(Zv (Z2 (Z2 (Z2 h1))));have q1_:=(Zv (Ye (Z2 (Z2 h1))));have q2_:=(Zv (Ye (Z2 h1)));have q3_:=(Zv (Ye h1));have q4_:=((Qr h2).imp (fun h=>(Yl h)) (fun h=>(Yl h)));have q5_:=(ZF h3);have q6_:=(Yl h4);have q7_:=(ZF (Js (Js h7)));have q8_:=(ZF (K4 (Js h7)));have q9_:=(ZF (K4 h7));have s7:=(Zv h8);(try have bq_:=qt);(try have n3_:=Ys hr3);(try have n4_:=Ys hr4);have yi:=hv0.1;(try dsimp only);first|exact W8 (by omega)|exact Ut (X5 h1) (by omega)|exact Ux (X5 h1) (Q6 h2) hr4 hr5 hr6 hr7 hr8 h5 h6 hr9|exact Ux (X5 h1) (Q6 h2) hr3 js ju kb kj h7 h8 yu|exact Uw (X5 h1) (Q6 h2) hr4 hr5 hr6 hr7 hr8 h5 h6|exact Uw (X5 h1) (Q6 h2) hr3 js ju kb kj h7 h8|exact False.elim ho0))
      ·exact TC.skip (ZY (Z3 (TC.region (TL.run 2 [] [(1,.p0 b1),(4,.i r2),(50,.i (w64 (s+1)))] rfl {} (TL.rw 50 (.i (w64 (s+1))) (.i (s+1)) Kr (int_eq (by have q0_:=(Zv (Z2 (Z2 (Z2 h1))));have q1_:=(Zv (Ye (Z2 (Z2 h1))));have q2_:=(Zv (Ye (Z2 h1)));have q3_:=(Zv (Ye h1));have q4_:=((Qr h2).imp (fun h=>(Yl h)) (fun h=>(Yl h)));have q5_:=(ZF h3);have q6_:=(Yl h4);have q7_:=((Qr h7).imp (fun h=>((Qr h).imp (fun h=>(Zv h)) (fun h=>(Zv h)))) (fun h=>(Zv h)));(try have bq_:=qt);(try have n3_:=Ys hr3);(try have n4_:=Ys hr4);have yi:=hv0.1;rw[Zt (x:=(s+1)) (by omega)])) (Zw rfl (Z4 (x:=s) (s+1) (by have q0_:=(Zv (Z2 (Z2 (Z2 h1))));have q1_:=(Zv (Ye (Z2 (Z2 h1))));have q2_:=(Zv (Ye (Z2 h1)));have q3_:=(Zv (Ye h1));have q4_:=((Qr h2).imp (fun h=>(Yl h)) (fun h=>(Yl h)));have q5_:=(ZF h3);have q6_:=(Yl h4);have q7_:=((Qr h7).imp (fun h=>((Qr h).imp (fun h=>(Zv h)) (fun h=>(Zv h)))) (fun h=>(Zv h)));(try have bq_:=qt);(try have n3_:=Ys hr3);(try have n4_:=Ys hr4);have yi:=hv0.1;first|exact I0 (X5 h1) hv0 (of_decide_eq_true h3) h4 hr4 hr5 hr6 hr7 hr8 h5|exact I1 (X5 h1) hv0 (of_decide_eq_true h3) h4 hr3 js ju kb kj h7) (by have q0_:=(Zv (Z2 (Z2 (Z2 h1))));have q1_:=(Zv (Ye (Z2 (Z2 h1))));have q2_:=(Zv (Ye (Z2 h1)));have q3_:=(Zv (Ye h1));have q4_:=((Qr h2).imp (fun h=>(Yl h)) (fun h=>(Yl h)));have q5_:=(ZF h3);have q6_:=(Yl h4);have q7_:=((Qr h7).imp (fun h=>((Qr h).imp (fun h=>(Zv h)) (fun h=>(Zv h)))) (fun h=>(Zv h)));(try have bq_:=qt);(try have n3_:=Ys hr3);(try have n4_:=Ys hr4);have yi:=hv0.1;(try clear hr4);(try clear hr3);(try clear hr5);(try clear hr6);(try clear hr7);(try clear hr8);(try clear hr9);(try clear js);(try clear ju);(try clear kb);(try clear kj);(try clear yu); omega) Kr (sb 4))))))))
    ·refine TC.exit (ZT (ZT (Z0 ?_)))
     exact TE.cut () (by have q0_:=(Zv (Z2 (Z2 (Z2 h1))));have q1_:=(Zv (Ye (Z2 (Z2 h1))));have q2_:=(Zv (Ye (Z2 h1)));have q3_:=(Zv (Ye h1));have q4_:=((Qr h2).imp (fun h=>(Yl h)) (fun h=>(Yl h)));have q5_:=(Zv h3);(try have bq_:=qt);(try have n3_:=Ys hr3);(try have n4_:=Ys hr4);have yi:=hv0.1;first|exact IZ (Q6 h2) hv0 (of_decide_eq_false h3)) Kr (sb 1)
   ·intro _ ho0
    exact YC (TL.run 2 [] [(2,.i 0),(3,.i 0)] rfl {} (Zb rfl (TC.ret (ZO (.inl rfl) (0,0) [] (.tuple #[.i 0,.i 0]) {} rfl (fun _ hM=>(hM.sub (sb 0)).fact (by have q0_:=(Zv (Z2 (Z2 (Z2 h1))));have q1_:=(Zv (Ye (Z2 (Z2 h1))));have q2_:=(Zv (Ye (Z2 h1)));have q3_:=(Zv (Ye h1));have q4_:=((Qr h2).imp (fun h=>(Yl h)) (fun h=>(Yl h)));(try have bq_:=qt);(try have n3_:=Ys hr3);(try have n4_:=Ys hr4);(try dsimp only);first|exact W8 (by omega)|exact Ut (X5 h1) (by omega)|exact Ux (X5 h1) (Q6 h2) hr4 hr5 hr6 hr7 hr8 h5 h6 hr9|exact Ux (X5 h1) (Q6 h2) hr3 js ju kb kj h7 h8 yu|exact Uw (X5 h1) (Q6 h2) hr4 hr5 hr6 hr7 hr8 h5 h6|exact Uw (X5 h1) (Q6 h2) hr3 js ju kb kj h7 h8|exact False.elim ho0))))))
end Go.Sky
end
section
namespace Go.Sky
open Go Go.Eng Go.Proofs
def JF (h_:Int) (length:Int):P×Int :=
 cond ((decide (length<0))||(decide (length>2000000))) (
  ((⟨0,0⟩:P),4)) (
  let r1:=J8 h_
  let r2:=(Qd (w64 (length*r1)))
  let r3:=K3 h_
  let r4:=(Qd (w64 (length*r3)))
  ((⟨r2,r4⟩:P),0))
theorem TP {h r:Int} (hr:J8 h=r):-16384≤r∧r≤16384:=by rw[M3] at hr;rw[← hr];exact C9 (by omega)
theorem EU {h r:Int} (hr:K3 h=r):-16384≤r∧r≤16384:=by
 unfold K3 at hr;exact TP hr
theorem OL {l r:Int} (hl:0≤l∧l≤2000000) (hr:-16384≤r∧r≤16384):-4611686018427387904≤w64 (l*r)∧w64 (l*r)≤4611686018427387904:=by
 have:=Ui hr (b:=l) (by omega)
 rw[dS r l] at this
 rw[Zt (by omega)];omega
theorem D7 (h_:Int) (length:Int) (w:World) (hT:G8 w):Calls Tryz.prog 94 #[.int .i64 h_,.int .i64 length] w (Ret w (.tuple #[P.v ((JF h_ length).1),.int .i64 ((JF h_ length).2)])):=by
 refine Zp (vs:=[.i h_,.i length]) (w:=w) Tryz.func94 rfl Tryz.ntmps94 rfl (Zf (ZA 4 (fun b1=>.p0 b1) (fun b1=>Bk b1 (P.c P.zero) 36) (fun b1=>{}) (fun b1=>Zc 2 [] [(5,.i 0)] {} (Z1 (Zf (Zc 3 [] [(8,.b (decide (length<0)))] {} (XM 8 (decide (length<0)) 6 [] [] (fun β=>[(11,.b (β||(decide (length>2000000))))]) Kr {} {} (Zb rfl (TC.cond ((decide (length<0))||(decide (length>2000000))) rfl Kr (fun h1=>?_) (fun h1=>?_))))))))))
 ·exact Zf (Zc 1 [] [(12,P.v P.zero)] {} (Yp 0 (Bk b1 (P.c P.zero) 36) (fun _=>{}) (Zc 3 [] [(5,.i 4)] {} (Zb rfl (TC.ret (Zo (TE.ret [0] (.tuple #[P.v (⟨0,0⟩:P),.i 4]) {} (by unfold JF;refine eS (a:=((⟨0,0⟩:P),4)) (fun (z:P×Int)=>(.tuple #[P.v z.1,.i z.2]:Value)) ?_;exact Zm h1 (rfl)))))))))
 ·have vm:=(Zv (Z2 h1))
  have rq:=(Zv (Ye h1))
  refine Yc (Zc 2 [] [(13,.i length),(14,.i h_)] {} (TL.c 15 (J8 h_) (fun r1=>.i r1) (fun w hM=>G9 h_ w (hT.sat hM)) {} (fun r1 hr1=>Zc 4 [] [(16,.i (w64 (length*r1)))] {} (Qy (Γ:=Int) (fun g=>.i g) (fun g=>[.inr (Qm (g=Qd (w64 (length*r1))))]) [] [Bk b1 (P.c P.zero) 36] (some 17) (fun g=>[(0,.i h_),(1,.i length),(4,.p0 b1),(17,.i g)]) (fun w hM=>Hk (w64 (length*r1)) 16384 w hM.pass rfl (by subst hr1;exact OL (by omega) (TP rfl))) Kr (fun g=>Kr) ?_))))
  rintro r2
  refine Xm [.inr (Qm (r2=Qd (w64 (length*r1)))),Bk b1 (P.c P.zero) 36] (fun _ hM=>hM) (Y3 (fun w hM=>hM.fact_at 0 rfl) (fun jr=>X2 [Bk b1 (P.c P.zero) 36] (.cons _ (aB _)) ?_))
  have hr2:(Qd (w64 (length*r1)))=r2:=(jr).symm
  refine Zc 7 [] [(18,.i length),(19,.i h_)] {} (TL.c 20 (K3 h_) (fun r3=>.i r3) (fun w hM=>HY h_ w (hT.sat hM)) {} (fun r3 hr3=>Zc 9 [] [(21,.i (w64 (length*r3)))] {} (Qy (Γ:=Int) (fun g=>.i g) (fun g=>[.inr (Qm (g=Qd (w64 (length*r3))))]) [] [Bk b1 (P.c P.zero) 36] (some 22) (fun g=>[(4,.p0 b1),(17,.i r2),(22,.i g)]) (fun w hM=>Hk (w64 (length*r3)) 16384 w hM.pass rfl (by subst hr1 hr2 hr3;exact OL (by omega) (EU rfl))) Kr (fun g=>Kr) ?_)))
  rintro r4
  refine Xm [.inr (Qm (r4=Qd (w64 (length*r3)))),Bk b1 (P.c P.zero) 36] (fun _ hM=>hM) (Y3 (fun w hM=>hM.fact_at 0 rfl) (fun jr=>X2 [Bk b1 (P.c P.zero) 36] (.cons _ (aB _)) ?_))
  have hr4:(Qd (w64 (length*r3)))=r4:=(jr).symm
  exact Zc 11 [] [(23,P.v (⟨r2,r4⟩:P))] {} (Yp 0 (Bk b1 (P.c (⟨r2,r4⟩:P)) 36) (fun _=>{}) (Zc 13 [] [(5,.i 0)] {} (Zb rfl (TC.ret (TE.ret [0] (.tuple #[P.v (⟨r2,r4⟩:P),.i 0]) {} (by unfold JF;refine eS (a:=((⟨r2,r4⟩:P),0)) (fun (z:P×Int)=>(.tuple #[P.v z.1,.i z.2]:Value)) ?_;subst hr1 hr2 hr3 hr4;exact Ze h1 (rfl)))))))
end Go.Sky
end
section
namespace Go.Sky
open Go Go.Eng Go.Proofs
def Qu (n:Int):Nat→Int→Int→Option Int
 | 0,_,_=>none
 | m+1,low,high=>cond (decide (low<high)) (
   cond (decide ((w64 ((w64 (low+(w64 ((w64 ((w64 (high-low))+1)).tdiv 2))))*(w64 (low+(w64 ((w64 ((w64 (high-low))+1)).tdiv 2))))))≤n)) (
    Qu n m (w64 (low+(w64 ((w64 ((w64 (high-low))+1)).tdiv 2)))) high) (
    Qu n m low (w64 ((w64 (low+(w64 ((w64 ((w64 (high-low))+1)).tdiv 2))))-1)))) (
   some (low))
def Qv (n:Int):Int :=
 cond (decide (n≤0)) (
  0) (
  YB ((Qu n 34 0 3037000499).getD 0) (fun jx =>
   jx))
theorem W9 (n:Int):∀ (j:Nat) (a b:Int),(0≤a∧b≤3037000499∧b-a<2 ^ j)→∃ R,Qu n (j+1) a b=some R
 | 0,a,b,h=>by
  have e:(2:Int) ^ 0=1:=rfl
  have hk:decide (a<b)=false:=by simp;omega
  exact⟨a,by rw[Qu,hk];rfl⟩
 | j+1,a,b,h=>by
  have e:(2:Int) ^ (j+1)=2*2 ^ j:=by rw[Int.pow_succ];omega
  by_cases hk:a<b
  ·have w1:w64 (w64 (b-a)+1)=b-a+1:=by rw[Zt (x:=b-a) (by omega),Zt (by omega)]
   have d1:(b-a+1).tdiv 2=(b-a+1)/2:=dB (by omega)
   have w2:w64 ((w64 (w64 (b-a)+1)).tdiv 2)=(b-a+1)/2:=by rw[w1,d1,Zt (by omega)]
   have w3:w64 (a+w64 ((w64 (w64 (b-a)+1)).tdiv 2))=a+(b-a+1)/2:=by rw[w2,Zt (by omega)]
   rw[Qu,decide_eq_true hk]
   simp only[cond_true,w3]
   cases decide (w64 ((a+(b-a+1)/2)*(a+(b-a+1)/2))≤n)
   ·rw[cond_false,Zt (by omega)]
    exact W9 n j a _ (by omega)
   ·rw[cond_true]
    exact W9 n j _ b (by omega)
  ·exact⟨a,by rw[Qu,decide_eq_false hk];rfl⟩
theorem CJ (n:Int) (w:World):Calls Tryz.prog 128 #[.int .i64 n] w (Ret w (.int .i64 (Qv n))):=by
 refine Zp (vs:=[.i n]) (w:=w) Tryz.func128 rfl Tryz.ntmps128 rfl (Zf (Zc 1 [] [(2,.i 0)] {} (Z1 (Zf (Zc 2 [] [(7,.b (decide (n≤0)))] {} (Zb rfl (TC.cond (decide (n≤0)) rfl Kr (fun h1=>?_) (fun h1=>?_))))))))
 ·exact Zf (Zc 1 [] [(2,.i 0)] {} (Zb rfl (TC.ret (Zo (TE.ret [] (.i 0) {} (by unfold Qv;refine eS (fun z=>(.i z:Value)) ?_;exact Zm h1 (rfl)))))))
 ·have vm:=(Zv h1)
  refine Yc (Zc 2 [] [(3,.i 0),(4,.i 3037000499)] {} (Z1 ?_))
  obtain⟨R1,hR⟩:∃ R,Qu n 34 0 3037000499=some R:=W9 n 33 0 3037000499 (by omega)
  refine TC.cut (S:=Int) (fun jx=>[(3,.i jx)]) (fun jx=>[]) (fun jx=>R1=jx) ?_ ?_
  ·refine TC.block (Xp (X:=Nat×Int×Int) (fun (m,low,high)=>[(0,.i n),(3,.i low),(4,.i high)]) (fun (m,low,high)=>[]) (fun (m,low,high)=>m) (fun (m,low,high)=>Qu n m low high=some R1) ?_ (34,0,3037000499) hR Kr (sb 0))
   rintro⟨m,low,high⟩ hI
   rcases m with _|m
   ·cases hI
   refine TC.seq (Zf (Zc 3 [] [(10,.b (decide (low<high)))] {} (Zb rfl (TC.cond (decide (low<high)) rfl Kr (fun h2=>?_) (fun h2=>?_)))))
   ·refine Yg (TC.block (Zf (Zc 8 [] [(5,.i (w64 (low+(w64 ((w64 ((w64 (high-low))+1)).tdiv 2)))))] {} (Zz (Zc 5 [] [(22,.b (decide ((w64 ((w64 (low+(w64 ((w64 ((w64 (high-low))+1)).tdiv 2))))*(w64 (low+(w64 ((w64 ((w64 (high-low))+1)).tdiv 2))))))≤n)))] {} (Zb rfl (TC.cond (decide ((w64 ((w64 (low+(w64 ((w64 ((w64 (high-low))+1)).tdiv 2))))*(w64 (low+(w64 ((w64 ((w64 (high-low))+1)).tdiv 2))))))≤n)) rfl Kr (fun h3=>?_) (fun h3=>?_))))))))
    ·exact TC.region (Zc 2 [] [(3,.i (w64 (low+(w64 ((w64 ((w64 (high-low))+1)).tdiv 2)))))] {} (Zw rfl (ZY (Z4 (x:=(m+1,low,high)) (m,w64 (low+(w64 ((w64 ((w64 (high-low))+1)).tdiv 2))),high) (by refine Eq.trans (Eq.symm ?_) hI;exact Zm h2 (Zm h3 (rfl))) (cY _) Kr (sb 0)))))
    ·exact TC.region (Zc 3 [] [(4,.i (w64 ((w64 (low+(w64 ((w64 ((w64 (high-low))+1)).tdiv 2))))-1)))] {} (Zw rfl (ZY (Z4 (x:=(m+1,low,high)) (m,low,w64 ((w64 (low+(w64 ((w64 ((w64 (high-low))+1)).tdiv 2))))-1)) (by refine Eq.trans (Eq.symm ?_) hI;exact Zm h2 (Ze h3 (rfl))) (cY _) Kr (sb 0)))))
   ·refine TC.exit (ZT (ZT (Z0 ?_)))
    exact TE.cut low (cT (hI.symm.trans (by exact Ze h2 (rfl)))) Kr (sb 0)
  ·rintro jx hJ
   exact YC (Zc 2 [] [(2,.i jx)] {} (Zb rfl (TC.ret (TE.ret [] (.i jx) {} (by unfold Qv;refine eS (fun z=>(.i z:Value)) ?_;exact Ze h1 (Yr ((congrArg (Option.getD · _) hR).trans hJ) (rfl)))))))
def QY (a:P) (b_:P):Int×Int :=
 let r1:=ZN a b_
 let r2:=Qv r1
 cond (decide ((w64 (r2*r2))<r1)) (
  (r2,w64 (r2+1))) (
  (r2,r2))
theorem HF (a:P) (b_:P) (w:World):Calls Tryz.prog 71 #[P.v a,P.v b_] w (Ret w (.tuple #[.int .i64 ((QY a b_).1),.int .i64 ((QY a b_).2)])):=by
 refine Zp (vs:=[P.v a,P.v b_]) (w:=w) Tryz.func71 rfl Tryz.ntmps71 rfl (Zf (ZA 2 (fun b1=>.p0 b1) (fun b1=>Bk b1 (P.c a) 36) (fun b1=>{}) (fun b1=>ZA 3 (fun b2=>.p0 b2) (fun b2=>Bk b2 (P.c b_) 36) (fun b2=>{}) (fun b2=>Zc 4 [] [(4,.i 0),(5,.i 0)] {} (Zz (Zc 2 [1,0] [(8,P.v a),(9,P.v b_)] {} (TL.c 10 (ZN a b_) (fun r1=>.i r1) (fun w _=>Ju a b_ w) {} (fun r1 hr1=>Zc 4 [] [(6,.i r1)] {} (Zz (Zc 1 [] [(11,.i r1)] {} (TL.c 12 (Qv r1) (fun r2=>.i r2) (fun w _=>CJ r1 w) {} (fun r2 hr2=>Zc 3 [] [(7,.i r2)] {} (Z1 (Zf (Zc 5 [] [(17,.b (decide ((w64 (r2*r2))<r1)))] {} (Zb rfl (TC.cond (decide ((w64 (r2*r2))<r1)) rfl Kr (fun h1=>?_) (fun h1=>?_))))))))))))))))))
 ·exact Zf (Zc 5 [] [(4,.i r2),(5,.i (w64 (r2+1)))] {} (Zb rfl (TC.ret (Zo (TE.ret [] (.tuple #[.i r2,.i (w64 (r2+1))]) {} (by unfold QY;refine eS (a:=(r2,w64 (r2+1))) (fun (z:Int×Int)=>(.tuple #[.i z.1,.i z.2]:Value)) ?_;subst hr1 hr2;exact Zm h1 (rfl)))))))
 ·exact Yc (Zc 4 [] [(4,.i r2),(5,.i r2)] {} (Zb rfl (TC.ret (TE.ret [] (.tuple #[.i r2,.i r2]) {} (by unfold QY;refine eS (a:=(r2,r2)) (fun (z:Int×Int)=>(.tuple #[.i z.1,.i z.2]:Value)) ?_;subst hr1 hr2;exact Ze h1 (rfl))))))
def Y6 (s:Zn):Int :=
 let r1:=Yd s.ID 0 255
 cond r1 (
  4) (
  let r2:=Yj s.At
  cond (r2 != 0) (
   4) (
   let r3:=Yd s.Reach 1 1000000
   cond r3 (
    4) (
    let r4:=Yd s.RangeError 1 10000
    cond r4 (
     4) (
     let r5:=Yd s.AzimuthError 1 100
     cond r5 (
      4) (
      0)))))
theorem V9 (s:Zn) (w:World):Calls Tryz.prog 69 #[Zn.v s] w (Ret w (.int .i64 (Y6 s))):=by
 refine Zp (vs:=[Zn.v s]) (w:=w) Tryz.func69 rfl Tryz.ntmps69 rfl (Zf (ZA 1 (fun b1=>.p0 b1) (fun b1=>Bk b1 (Zn.c s) 85) (fun b1=>{}) (fun b1=>Zc 2 [] [(2,.i 0)] {} (Z1 (Zf (Zc 2 [0] [(4,.i s.ID)] {} (TL.c 5 (Yd s.ID 0 255) (fun r1=>.b r1) (fun w _=>XN s.ID 0 255 w) {} (fun r1 hr1=>Zc 4 [] [(6,.b r1)] {} (Yy 6 r1 Kr (fun h1=>?_) (fun h1=>?_))))))))))
 ·exact Zc 24 [] [(26,.b true)] {} (Zb rfl (Xg rfl Kr (Zf (Zc 1 [] [(2,.i 4)] {} (Zb rfl (TC.ret (Zo (TE.ret [] (.i 4) {} (by unfold Y6;refine eS (fun z=>(.i z:Value)) ?_;subst hr1;exact Zm h1 (rfl))))))))))
 ·refine Zc 6 [0] [(8,P.v s.At)] {} (TL.c 9 (Yj s.At) (fun r2=>.i r2) (fun w _=>QL s.At w) {} (fun r2 hr2=>Zc 10 [] [(12,.b (r2 != 0))] {} (Yy 12 (r2 != 0) Kr (fun h2=>?_) (fun h2=>?_))))
  ·exact Zc 24 [] [(26,.b true)] {} (Zb rfl (Xg rfl Kr (Zf (Zc 1 [] [(2,.i 4)] {} (Zb rfl (TC.ret (Zo (TE.ret [] (.i 4) {} (by unfold Y6;refine eS (fun z=>(.i z:Value)) ?_;subst hr1 hr2;exact Ze h1 (Zm h2 (rfl)))))))))))
  ·refine Zc 12 [0] [(14,.i s.Reach)] {} (TL.c 15 (Yd s.Reach 1 1000000) (fun r3=>.b r3) (fun w _=>XN s.Reach 1 1000000 w) {} (fun r3 hr3=>Zc 15 [] [(17,.b r3)] {} (Yy 17 r3 Kr (fun h3=>?_) (fun h3=>?_))))
   ·exact Zc 24 [] [(26,.b true)] {} (Zb rfl (Xg rfl Kr (Zf (Zc 1 [] [(2,.i 4)] {} (Zb rfl (TC.ret (Zo (TE.ret [] (.i 4) {} (by unfold Y6;refine eS (fun z=>(.i z:Value)) ?_;subst hr1 hr2 hr3;exact Ze h1 (Ze h2 (Zm h3 (rfl))))))))))))
   ·refine Zc 17 [0] [(19,.i s.RangeError)] {} (TL.c 20 (Yd s.RangeError 1 10000) (fun r4=>.b r4) (fun w _=>XN s.RangeError 1 10000 w) {} (fun r4 hr4=>Zc 20 [] [(22,.b r4)] {} (Yy 22 r4 Kr (fun h4=>?_) (fun h4=>?_))))
    ·exact Zc 24 [] [(26,.b true)] {} (Zb rfl (Xg rfl Kr (Zf (Zc 1 [] [(2,.i 4)] {} (Zb rfl (TC.ret (Zo (TE.ret [] (.i 4) {} (by unfold Y6;refine eS (fun z=>(.i z:Value)) ?_;subst hr1 hr2 hr3 hr4;exact Ze h1 (Ze h2 (Ze h3 (Zm h4 (rfl)))))))))))))
    ·refine Zc 22 [0] [(24,.i s.AzimuthError)] {} (TL.c 25 (Yd s.AzimuthError 1 100) (fun r5=>.b r5) (fun w _=>XN s.AzimuthError 1 100 w) {} (fun r5 hr5=>Zc 24 [] [(26,.b r5)] {} (Zb rfl (TC.cond r5 rfl Kr (fun h5=>?_) (fun h5=>?_)))))
     ·exact Zf (Zc 1 [] [(2,.i 4)] {} (Zb rfl (TC.ret (Zo (TE.ret [] (.i 4) {} (by unfold Y6;refine eS (fun z=>(.i z:Value)) ?_;subst hr1 hr2 hr3 hr4 hr5;exact Ze h1 (Ze h2 (Ze h3 (Ze h4 (Zm h5 (rfl)))))))))))
     ·exact Yc (Zc 1 [] [(2,.i 0)] {} (Zb rfl (TC.ret (TE.ret [] (.i 0) {} (by unfold Y6;refine eS (fun z=>(.i z:Value)) ?_;subst hr1 hr2 hr3 hr4 hr5;exact Ze h1 (Ze h2 (Ze h3 (Ze h4 (Ze h5 (rfl))))))))))
def Ym (p:Zs):Int :=
 let r1:=Yd p.Radar 0 255
 cond r1 (
  4) (
  let r2:=Yd p.Time 0 200000
  cond r2 (
   4) (
   let r3:=Yd p.Range 0 2000000
   cond r3 (
    4) (
    let r4:=Yd p.Azimuth 0 4095
    cond r4 (
     4) (
     let r5:=Yd p.Height 0 60000
     cond r5 (
      4) (
      let r6:=Yd p.Code (-1) 4095
      cond r6 (
       4) (
       0))))))
theorem Vo (p:Zs) (w:World):Calls Tryz.prog 90 #[Zs.v p] w (Ret w (.int .i64 (Ym p))):=by
 refine Zp (vs:=[Zs.v p]) (w:=w) Tryz.func90 rfl Tryz.ntmps90 rfl (Zf (ZA 1 (fun b1=>.p0 b1) (fun b1=>Bk b1 (Zs.c p) 89) (fun b1=>{}) (fun b1=>Zc 2 [] [(2,.i 0)] {} (Z1 (Zf (Zc 2 [0] [(4,.i p.Radar)] {} (TL.c 5 (Yd p.Radar 0 255) (fun r1=>.b r1) (fun w _=>XN p.Radar 0 255 w) {} (fun r1 hr1=>Zc 4 [] [(6,.b r1)] {} (Yy 6 r1 Kr (fun h1=>?_) (fun h1=>?_))))))))))
 ·exact Zc 28 [] [(30,.b true)] {} (Zb rfl (Xg rfl Kr (Zf (Zc 1 [] [(2,.i 4)] {} (Zb rfl (TC.ret (Zo (TE.ret [] (.i 4) {} (by unfold Ym;refine eS (fun z=>(.i z:Value)) ?_;subst hr1;exact Zm h1 (rfl))))))))))
 ·refine Zc 6 [0] [(8,.i p.Time)] {} (TL.c 9 (Yd p.Time 0 200000) (fun r2=>.b r2) (fun w _=>XN p.Time 0 200000 w) {} (fun r2 hr2=>Zc 9 [] [(11,.b r2)] {} (Yy 11 r2 Kr (fun h2=>?_) (fun h2=>?_))))
  ·exact Zc 28 [] [(30,.b true)] {} (Zb rfl (Xg rfl Kr (Zf (Zc 1 [] [(2,.i 4)] {} (Zb rfl (TC.ret (Zo (TE.ret [] (.i 4) {} (by unfold Ym;refine eS (fun z=>(.i z:Value)) ?_;subst hr1 hr2;exact Ze h1 (Zm h2 (rfl)))))))))))
  ·refine Zc 11 [0] [(13,.i p.Range)] {} (TL.c 14 (Yd p.Range 0 2000000) (fun r3=>.b r3) (fun w _=>XN p.Range 0 2000000 w) {} (fun r3 hr3=>Zc 14 [] [(16,.b r3)] {} (Yy 16 r3 Kr (fun h3=>?_) (fun h3=>?_))))
   ·exact Zc 28 [] [(30,.b true)] {} (Zb rfl (Xg rfl Kr (Zf (Zc 1 [] [(2,.i 4)] {} (Zb rfl (TC.ret (Zo (TE.ret [] (.i 4) {} (by unfold Ym;refine eS (fun z=>(.i z:Value)) ?_;subst hr1 hr2 hr3;exact Ze h1 (Ze h2 (Zm h3 (rfl))))))))))))
   ·refine Zc 16 [0] [(18,.i p.Azimuth)] {} (TL.c 19 (Yd p.Azimuth 0 4095) (fun r4=>.b r4) (fun w _=>XN p.Azimuth 0 4095 w) {} (fun r4 hr4=>Zc 19 [] [(21,.b r4)] {} (Yy 21 r4 Kr (fun h4=>?_) (fun h4=>?_))))
    ·exact Zc 28 [] [(30,.b true)] {} (Zb rfl (Xg rfl Kr (Zf (Zc 1 [] [(2,.i 4)] {} (Zb rfl (TC.ret (Zo (TE.ret [] (.i 4) {} (by unfold Ym;refine eS (fun z=>(.i z:Value)) ?_;subst hr1 hr2 hr3 hr4;exact Ze h1 (Ze h2 (Ze h3 (Zm h4 (rfl)))))))))))))
    ·refine Zc 21 [0] [(23,.i p.Height)] {} (TL.c 24 (Yd p.Height 0 60000) (fun r5=>.b r5) (fun w _=>XN p.Height 0 60000 w) {} (fun r5 hr5=>Zc 24 [] [(26,.b r5)] {} (Yy 26 r5 Kr (fun h5=>?_) (fun h5=>?_))))
     ·exact Zc 28 [] [(30,.b true)] {} (Zb rfl (Xg rfl Kr (Zf (Zc 1 [] [(2,.i 4)] {} (Zb rfl (TC.ret (Zo (TE.ret [] (.i 4) {} (by unfold Ym;refine eS (fun z=>(.i z:Value)) ?_;subst hr1 hr2 hr3 hr4 hr5;exact Ze h1 (Ze h2 (Ze h3 (Ze h4 (Zm h5 (rfl))))))))))))))
     ·refine Zc 26 [0] [(28,.i p.Code)] {} (TL.c 29 (Yd p.Code (-1) 4095) (fun r6=>.b r6) (fun w _=>XN p.Code (-1) 4095 w) {} (fun r6 hr6=>Zc 28 [] [(30,.b r6)] {} (Zb rfl (TC.cond r6 rfl Kr (fun h6=>?_) (fun h6=>?_)))))
      ·exact Zf (Zc 1 [] [(2,.i 4)] {} (Zb rfl (TC.ret (Zo (TE.ret [] (.i 4) {} (by unfold Ym;refine eS (fun z=>(.i z:Value)) ?_;subst hr1 hr2 hr3 hr4 hr5 hr6;exact Ze h1 (Ze h2 (Ze h3 (Ze h4 (Ze h5 (Zm h6 (rfl))))))))))))
      ·exact Yc (Zc 1 [] [(2,.i 0)] {} (Zb rfl (TC.ret (TE.ret [] (.i 0) {} (by unfold Ym;refine eS (fun z=>(.i z:Value)) ?_;subst hr1 hr2 hr3 hr4 hr5 hr6;exact Ze h1 (Ze h2 (Ze h3 (Ze h4 (Ze h5 (Ze h6 (rfl)))))))))))
def Jq (s:Zn) (far:Int):Int×Int :=
 let r1:=Y6 s
 cond (r1 != 0) (
  (0,r1)) (
  let r2:=Yd far 0 2000000
  cond r2 (
   (0,4)) (
   let r3:=X1 (w64 (far*s.AzimuthError)) 651
   let r4:=X1 far 23170
   (w64 ((w64 ((w64 (s.RangeError+r3.1))+r4.1))+2),0)))
theorem Fv (s:Zn) (far:Int) (w:World):Calls Tryz.prog 95 #[Zn.v s,.int .i64 far] w (Ret w (.tuple #[.int .i64 ((Jq s far).1),.int .i64 ((Jq s far).2)])):=by
 refine Zp (vs:=[Zn.v s,.i far]) (w:=w) Tryz.func95 rfl Tryz.ntmps95 rfl (Zf (ZA 2 (fun b1=>.p0 b1) (fun b1=>Bk b1 (Zn.c s) 85) (fun b1=>{}) (fun b1=>Zc 3 [] [(4,.i 0),(5,.i 0)] {} (Z1 (Zf (Zc 1 [0] [(11,Zn.v s)] {} (TL.c 12 (Y6 s) (fun r1=>.i r1) (fun w _=>V9 s w) {} (fun r1 hr1=>Zc 3 [] [(6,.i r1)] {} (Zz (Zc 2 [] [(14,.b (r1 != 0))] {} (Zb rfl (TC.cond (r1 != 0) rfl Kr (fun h1=>?_) (fun h1=>?_)))))))))))))
 ·exact Zf (Zc 3 [] [(4,.i 0),(5,.i r1)] {} (Zb rfl (TC.ret (Zo (TE.ret [] (.tuple #[.i 0,.i r1]) {} (by unfold Jq;refine eS (a:=(0,r1)) (fun (z:Int×Int)=>(.tuple #[.i z.1,.i z.2]:Value)) ?_;subst hr1;exact Zm h1 (rfl)))))))
 ·refine Yg (TC.seq (Zf (Zc 1 [] [(16,.i far)] {} (TL.c 17 (Yd far 0 2000000) (fun r2=>.b r2) (fun w _=>XN far 0 2000000 w) {} (fun r2 hr2=>Zb rfl (TC.cond r2 rfl Kr (fun h2=>?_) (fun h2=>?_)))))))
  ·exact Zf (Zc 2 [] [(4,.i 0),(5,.i 4)] {} (Zb rfl (TC.ret (Zo (TE.ret [] (.tuple #[.i 0,.i 4]) {} (by unfold Jq;refine eS (a:=(0,4)) (fun (z:Int×Int)=>(.tuple #[.i z.1,.i z.2]:Value)) ?_;subst hr1 hr2;exact Ze h1 (Zm h2 (rfl))))))))
  ·exact Yc (Zc 4 [0] [(22,.i (w64 (far*s.AzimuthError)))] {} (TL.c 23 (X1 (w64 (far*s.AzimuthError)) 651) (fun r3=>.tuple #[.i r3.1,.i r3.2]) (fun w _=>KB (w64 (far*s.AzimuthError)) 651 w) {} (fun r3 hr3=>Zc 10 [] [(7,.i r3.1)] {} (Zz (Zc 1 [] [(27,.i far)] {} (TL.c 28 (X1 far 23170) (fun r4=>.tuple #[.i r4.1,.i r4.2]) (fun w _=>KB far 23170 w) {} (fun r4 hr4=>Zc 7 [] [(9,.i r4.1)] {} (Zz (Zc 9 [0] [(4,.i (w64 ((w64 ((w64 (s.RangeError+r3.1))+r4.1))+2))),(5,.i 0)] {} (Zb rfl (TC.ret (TE.ret [] (.tuple #[.i (w64 ((w64 ((w64 (s.RangeError+r3.1))+r4.1))+2)),.i 0]) {} (by unfold Jq;refine eS (a:=(w64 ((w64 ((w64 (s.RangeError+r3.1))+r4.1))+2),0)) (fun (z:Int×Int)=>(.tuple #[.i z.1,.i z.2]:Value)) ?_;subst hr1 hr2 hr3 hr4;exact Ze h1 (Ze h2 (rfl)))))))))))))))
def Yb (s:Zn) (p:Zs):Zj×Int :=
 let r1:=Y6 s
 cond (r1 != 0) (
  ((⟨0,⟨0,0⟩,0,0,0⟩:Zj),r1)) (
  let r2:=Ym p
  cond (r2 != 0) (
   ((⟨0,⟨0,0⟩,0,0,0⟩:Zj),r2)) (
   cond (p.Radar != s.ID) (
    ((⟨0,⟨0,0⟩,0,0,0⟩:Zj),1)) (
    let r3:=JF p.Azimuth p.Range
    let r4:=Jq s p.Range
    let r5:=Jr s.At r3.1
    let r6:=Yj r5
    cond ((r6 != 0)||(decide (r4.1>1000000))) (
     ((⟨0,⟨0,0⟩,0,0,0⟩:Zj),8)) (
     ((⟨p.Time,r5,p.Height,p.Code,r4.1⟩:Zj),0)))))
set_option maxHeartbeats 4000000 in
theorem M7 (s:Zn) (p:Zs) (w:World) (hT:G8 w):Calls Tryz.prog 42 #[Zn.v s,Zs.v p] w (Ret w (.tuple #[Zj.v ((Yb s p).1),.int .i64 ((Yb s p).2)])):=by
 refine Zp (vs:=[Zn.v s,Zs.v p]) (w:=w) Tryz.func42 rfl Tryz.ntmps42 rfl (Zf (ZA 2 (fun b1=>.p0 b1) (fun b1=>Bk b1 (Zn.c s) 85) (fun b1=>{}) (fun b1=>ZA 3 (fun b2=>.p0 b2) (fun b2=>Bk b2 (Zs.c p) 89) (fun b2=>{}) (fun b2=>ZA 4 (fun b3=>.p0 b3) (fun b3=>Bk b3 (Zj.c Zj.zero) 42) (fun b3=>{}) (fun b3=>Zc 4 [] [(5,.i 0)] {} (Z1 (Zf (Zc 1 [2] [(13,Zn.v s)] {} (TL.c 14 (Y6 s) (fun r1=>.i r1) (fun w _=>V9 s w) {} (fun r1 hr1=>Zc 3 [] [(6,.i r1)] {} (Zz (Zc 2 [] [(16,.b (r1 != 0))] {} (Zb rfl (TC.cond (r1 != 0) rfl Kr (fun h1=>?_) (fun h1=>?_)))))))))))))))
 ·exact Zf (Zc 2 [] [(17,Zj.v Zj.zero),(18,.i r1)] {} (Yp 0 (Bk b3 (Zj.c Zj.zero) 42) (fun _=>{}) (Zc 4 [] [(5,.i r1)] {} (Zb rfl (TC.ret (Zo (TE.ret [0] (.tuple #[Zj.v (⟨0,⟨0,0⟩,0,0,0⟩:Zj),.i r1]) {} (by unfold Yb;refine eS (a:=((⟨0,⟨0,0⟩,0,0,0⟩:Zj),r1)) (fun (z:Zj×Int)=>(.tuple #[Zj.v z.1,.i z.2]:Value)) ?_;subst hr1;exact Zm h1 (rfl)))))))))
 ·refine Yg (TC.seq (Zf (Zc 1 [1] [(19,Zs.v p)] {} (TL.c 20 (Ym p) (fun r2=>.i r2) (fun w _=>Vo p w) {} (fun r2 hr2=>Zc 3 [] [(7,.i r2)] {} (Zz (Zc 2 [] [(22,.b (r2 != 0))] {} (Zb rfl (TC.cond (r2 != 0) rfl Kr (fun h2=>?_) (fun h2=>?_))))))))))
  ·exact Zf (Zc 2 [] [(23,Zj.v Zj.zero),(24,.i r2)] {} (Yp 0 (Bk b3 (Zj.c Zj.zero) 42) (fun _=>{}) (Zc 4 [] [(5,.i r2)] {} (Zb rfl (TC.ret (Zo (TE.ret [0] (.tuple #[Zj.v (⟨0,⟨0,0⟩,0,0,0⟩:Zj),.i r2]) {} (by unfold Yb;refine eS (a:=((⟨0,⟨0,0⟩,0,0,0⟩:Zj),r2)) (fun (z:Zj×Int)=>(.tuple #[Zj.v z.1,.i z.2]:Value)) ?_;subst hr1 hr2;exact Ze h1 (Zm h2 (rfl))))))))))
  ·refine Yg (TC.seq (Zf (Zc 5 [1,2] [(29,.b (p.Radar != s.ID))] {} (Zb rfl (TC.cond (p.Radar != s.ID) rfl Kr (fun h3=>?_) (fun h3=>?_))))))
   ·exact Zf (Zc 1 [] [(30,Zj.v Zj.zero)] {} (Yp 0 (Bk b3 (Zj.c Zj.zero) 42) (fun _=>{}) (Zc 3 [] [(5,.i 1)] {} (Zb rfl (TC.ret (Zo (TE.ret [0] (.tuple #[Zj.v (⟨0,⟨0,0⟩,0,0,0⟩:Zj),.i 1]) {} (by unfold Yb;refine eS (a:=((⟨0,⟨0,0⟩,0,0,0⟩:Zj),1)) (fun (z:Zj×Int)=>(.tuple #[Zj.v z.1,.i z.2]:Value)) ?_;subst hr1 hr2;exact Ze h1 (Ze h2 (Zm h3 (rfl)))))))))))
   ·refine Yc (Zc 4 [1,1] [(33,.i p.Azimuth),(35,.i p.Range)] {} (TL.c 36 (JF p.Azimuth p.Range) (fun r3=>.tuple #[P.v r3.1,.i r3.2]) (fun w hM=>D7 p.Azimuth p.Range w (hT.sat hM)) {} (fun r3 hr3=>Zc 8 [] [(37,P.v r3.1),(38,.i r3.2)] {} (ZA 8 (fun b4=>.p0 b4) (fun b4=>Bk b4 (P.c P.zero) 36) (fun b4=>{}) (fun b4=>Yp 0 (Bk b4 (P.c r3.1) 36) (fun _=>{}) (Zc 11 [] [] {} (Zz (Zc 3 [3,2] [(40,Zn.v s),(42,.i p.Range)] {} (TL.c 43 (Jq s p.Range) (fun r4=>.tuple #[.i r4.1,.i r4.2]) (fun w _=>Fv s p.Range w) {} (fun r4 hr4=>Zc 9 [] [(10,.i r4.1)] {} (Z1 ?_)))))))))))
    obtain⟨r5,hr5⟩:∃ r,Jr s.At r3.1=r:=⟨_,rfl⟩
    let Mr11_:Mem:=[Bk b4 (P.c r3.1) 36,Bk b3 (Zj.c Zj.zero) 42,Bk b2 (Zs.c p) 89,Bk b1 (Zn.c s) 85]
    refine Jm (G:=Nat) (base:=[(2,.p0 b1),(3,.p0 b2),(4,.p0 b3),(8,.p0 b4),(10,.i r4.1)]) (vals:=fun γ=>[.pt b2 1,.i p.Time,.pt b1 1,P.v s.At,P.v r3.1,P.v r5,.pt b2 4,.i p.Height,.pt b2 5,.i p.Code,.i r4.1,Zj.v (⟨p.Time,r5,p.Height,p.Code,r4.1⟩:Zj),.p0 γ,undef]) (writes:=[12,13]) (mem:=fun bs γ=>match bs with | [y5,x13_]=>(bif x13_ then [Bk γ (Zj.c (⟨p.Time,r5,p.Height,p.Code,r4.1⟩:Zj)) 42] else bif y5 then [Bk γ (Zj.c Zj.zero) 42] else [])++(Mr11_)|_=>[]) (0) (fun γ=>[(4,.p0 b3),(10,.i r4.1),(12,.p0 γ)]) Kr Kr Kr Kr Kr (fun γ=>Kr) (fun _ hM=>hM) (fun γ=>Kr) ?_ ?_
    ·skip
     exact Steps.run (i:=0) 5 [0,2,0,3,0] Mr11_ Kr Kr (fun S (γ:Nat) w hM=>by rw[mS2 rfl rfl] at hM;exact hM.sub (Zl (aB _))) Kr (fun (γ:Nat)=>{}) (Steps.call (i:=5) 96 (fun (γ:Nat)=>#[P.v s.At,P.v r3.1]) (some 51) (fun (γ:Nat)=>P.v r5) (fun (γ:Nat)=>[Bk b4 (P.c r3.1) 36,Bk b3 (Zj.c Zj.zero) 42,Bk b2 (Zs.c p) 89,Bk b1 (Zn.c s) 85]) Kr (fun S (γ:Nat) w _ hM=>by rw[mS2 rfl rfl] at hM;exact hM.sub (Zl (aB _))) (fun (γ:Nat) w _=>by have h:=HQ s.At r3.1 w;rw[hr5] at h;exact h) (fun (γ:Nat)=>Kr) (fun (γ:Nat)=>Kr) (Steps.run (i:=6) 12 [0,2,0,2,0,0] Mr11_ Kr Kr (fun S (γ:Nat) w hM=>by rw[mS2 rfl rfl] at hM;exact hM.sub (Zl (aB _))) Kr (fun (γ:Nat)=>{}) (Steps.op (i:=12) (Γ:=Nat) (fun g (γ:Nat)=>g) (fun _=>[]) (fun b (γ:Nat)=>[Bk b (Zj.c Zj.zero) 42]) (fun S (γ:Nat)=>Mr11_) [12,13] (fun (γ:Nat)=>sV (Instr.alloc 42 true (.tuple #[]))) (some 12) (fun b (γ:Nat)=>.p0 b) (fun S (γ:Nat) hj hd hl=>by rw[mS2 hj (hl 13 Kr)];exact aC _) (fun S (γ:Nat) g hl=>by rw[mS2 (S:=upS S 12) (a0:=12) (a1:=13) rfl (hl 13 Kr)];exact(aC _).symm) (fun (γ:Nat) M' w hM=>Q4 (v:=fun b=>.p0 b) (fun b M=>Kr) M' w hM) (fun (γ:Nat)=>Kr) (fun (γ:Nat) g=>Kr) Kr (fun (γ:Nat) g=>Kr) (Steps.put (i:=13) (fun (γ:Nat)=>[Bk γ (Zj.c Zj.zero) 42]) (fun (γ:Nat)=>[Bk γ (Zj.c (⟨p.Time,r5,p.Height,p.Code,r4.1⟩:Zj)) 42]) (fun S (γ:Nat)=>Mr11_) (fun (γ:Nat)=>sU (Instr.storeAt 42 (.p0 γ) (Zj.v (⟨p.Time,r5,p.Height,p.Code,r4.1⟩:Zj)))) none (fun S (γ:Nat) hj hd hl=>by rw[mS2 (hd 12 Kr) hj];exact aC _) (fun S (γ:Nat) _=>(aC _).symm) (fun (γ:Nat) M' w hM=>JB (fun b M=>Kr) (fun b M=>Kr) M' w hM) (fun (γ:Nat)=>Kr) (fun (γ:Nat)=>Kr) (X6 Kr)))))
    ·rintro b5
     refine Yi [Bk b5 (Zj.c (⟨p.Time,r5,p.Height,p.Code,r4.1⟩:Zj)) 42,Bk b4 (P.c r3.1) 36,Bk b3 (Zj.c Zj.zero) 42,Bk b2 (Zs.c p) 89,Bk b1 (Zn.c s) 85] (fun _ hM=>hM) (Z3 (TC.seq (Zf (Zc 2 [0] [(59,P.v r5)] {} (TL.c 60 (Yj r5) (fun r6=>.i r6) (fun w _=>QL r5 w) {} (fun r6 hr6=>Zc 5 [] [(62,.b (r6 != 0))] {} (XM 62 (r6 != 0) 8 [] [] (fun β=>[(65,.b (β||(decide (r4.1>1000000))))]) Kr {} {} (Zb rfl (TC.cond ((r6 != 0)||(decide (r4.1>1000000))) rfl Kr (fun h4=>?_) (fun h4=>?_))))))))))
     ·exact Zf (Zc 1 [] [(66,Zj.v Zj.zero)] {} (Yp 2 (Bk b3 (Zj.c Zj.zero) 42) (fun _=>{}) (Zc 3 [] [(5,.i 8)] {} (Zb rfl (TC.ret (Zo (TE.ret [2] (.tuple #[Zj.v (⟨0,⟨0,0⟩,0,0,0⟩:Zj),.i 8]) {} (by unfold Yb;refine eS (a:=((⟨0,⟨0,0⟩,0,0,0⟩:Zj),8)) (fun (z:Zj×Int)=>(.tuple #[Zj.v z.1,.i z.2]:Value)) ?_;subst hr1 hr2 hr3 hr4 hr5 hr6;exact Ze h1 (Ze h2 (Ze h3 (Zm h4 (rfl))))))))))))
     ·exact Yc (Zc 1 [0] [(67,Zj.v (⟨p.Time,r5,p.Height,p.Code,r4.1⟩:Zj))] {} (Yp 2 (Bk b3 (Zj.c (⟨p.Time,r5,p.Height,p.Code,r4.1⟩:Zj)) 42) (fun _=>{}) (Zc 3 [] [(5,.i 0)] {} (Zb rfl (TC.ret (TE.ret [2] (.tuple #[Zj.v (⟨p.Time,r5,p.Height,p.Code,r4.1⟩:Zj),.i 0]) {} (by unfold Yb;refine eS (a:=((⟨p.Time,r5,p.Height,p.Code,r4.1⟩:Zj),0)) (fun (z:Zj×Int)=>(.tuple #[Zj.v z.1,.i z.2]:Value)) ?_;subst hr1 hr2 hr3 hr4 hr5 hr6;exact Ze h1 (Ze h2 (Ze h3 (Ze h4 (rfl)))))))))))
def ZK (s:Zn) (t:Zj):Zs×Int :=
 let r1:=Y6 s
 cond (r1 != 0) (
  ((⟨0,0,0,0,0,0⟩:Zs),r1)) (
  let r2:=ZG t
  cond (r2 != 0) (
   ((⟨0,0,0,0,0,0⟩:Zs),r2)) (
   let r3:=ZX s.At t.At s.Reach
   cond (!r3) (
    ((⟨0,0,0,0,0,0⟩:Zs),8)) (
    let r4:=QY s.At t.At
    cond (!(P.eqb s.At t.At)) (
     let r5:=J3 t.At s.At
     let r6:=(ofF r5).1
     ((⟨s.ID,t.Time,r4.1,r6,t.Height,t.Code⟩:Zs),0)) (
     ((⟨s.ID,t.Time,r4.1,0,t.Height,t.Code⟩:Zs),0)))))
set_option maxHeartbeats 4000000 in
theorem M8 (s:Zn) (t:Zj) (w:World) (hT:G8 w):Calls Tryz.prog 32 #[Zn.v s,Zj.v t] w (Ret w (.tuple #[Zs.v ((ZK s t).1),.int .i64 ((ZK s t).2)])):=by
 refine Zp (vs:=[Zn.v s,Zj.v t]) (w:=w) Tryz.func32 rfl Tryz.ntmps32 rfl (Zf (ZA 2 (fun b1=>.p0 b1) (fun b1=>Bk b1 (Zn.c s) 85) (fun b1=>{}) (fun b1=>ZA 3 (fun b2=>.p0 b2) (fun b2=>Bk b2 (Zj.c t) 42) (fun b2=>{}) (fun b2=>ZA 4 (fun b3=>.p0 b3) (fun b3=>Bk b3 (Zs.c Zs.zero) 89) (fun b3=>{}) (fun b3=>Zc 4 [] [(5,.i 0)] {} (Z1 (Zf (Zc 1 [2] [(11,Zn.v s)] {} (TL.c 12 (Y6 s) (fun r1=>.i r1) (fun w _=>V9 s w) {} (fun r1 hr1=>Zc 3 [] [(6,.i r1)] {} (Zz (Zc 2 [] [(14,.b (r1 != 0))] {} (Zb rfl (TC.cond (r1 != 0) rfl Kr (fun h1=>?_) (fun h1=>?_)))))))))))))))
 ·exact Zf (Zc 2 [] [(15,Zs.v Zs.zero),(16,.i r1)] {} (Yp 0 (Bk b3 (Zs.c Zs.zero) 89) (fun _=>{}) (Zc 4 [] [(5,.i r1)] {} (Zb rfl (TC.ret (Zo (TE.ret [0] (.tuple #[Zs.v (⟨0,0,0,0,0,0⟩:Zs),.i r1]) {} (by unfold ZK;refine eS (a:=((⟨0,0,0,0,0,0⟩:Zs),r1)) (fun (z:Zs×Int)=>(.tuple #[Zs.v z.1,.i z.2]:Value)) ?_;subst hr1;exact Zm h1 (rfl)))))))))
 ·refine Yg (TC.seq (Zf (Zc 1 [1] [(17,Zj.v t)] {} (TL.c 18 (ZG t) (fun r2=>.i r2) (fun w _=>XX t w) {} (fun r2 hr2=>Zc 3 [] [(7,.i r2)] {} (Zz (Zc 2 [] [(20,.b (r2 != 0))] {} (Zb rfl (TC.cond (r2 != 0) rfl Kr (fun h2=>?_) (fun h2=>?_))))))))))
  ·exact Zf (Zc 2 [] [(21,Zs.v Zs.zero),(22,.i r2)] {} (Yp 0 (Bk b3 (Zs.c Zs.zero) 89) (fun _=>{}) (Zc 4 [] [(5,.i r2)] {} (Zb rfl (TC.ret (Zo (TE.ret [0] (.tuple #[Zs.v (⟨0,0,0,0,0,0⟩:Zs),.i r2]) {} (by unfold ZK;refine eS (a:=((⟨0,0,0,0,0,0⟩:Zs),r2)) (fun (z:Zs×Int)=>(.tuple #[Zs.v z.1,.i z.2]:Value)) ?_;subst hr1 hr2;exact Ze h1 (Zm h2 (rfl))))))))))
  ·refine Yg (TC.seq (Zf (Zc 6 [2,1,2] [(24,P.v s.At),(26,P.v t.At),(28,.i s.Reach)] {} (TL.c 29 (ZX s.At t.At s.Reach) (fun r3=>.b r3) (fun w _=>QR s.At t.At s.Reach w) {} (fun r3 hr3=>Zc 8 [] [(30,.b (!r3))] {} (Zb rfl (TC.cond (!r3) rfl Kr (fun h3=>?_) (fun h3=>?_))))))))
   ·exact Zf (Zc 1 [] [(31,Zs.v Zs.zero)] {} (Yp 0 (Bk b3 (Zs.c Zs.zero) 89) (fun _=>{}) (Zc 3 [] [(5,.i 8)] {} (Zb rfl (TC.ret (Zo (TE.ret [0] (.tuple #[Zs.v (⟨0,0,0,0,0,0⟩:Zs),.i 8]) {} (by unfold ZK;refine eS (a:=((⟨0,0,0,0,0,0⟩:Zs),8)) (fun (z:Zs×Int)=>(.tuple #[Zs.v z.1,.i z.2]:Value)) ?_;subst hr1 hr2 hr3;exact Ze h1 (Ze h2 (Zm h3 (rfl)))))))))))
   ·refine Yc (Zc 4 [2,1] [(34,P.v s.At),(36,P.v t.At)] {} (TL.c 37 (QY s.At t.At) (fun r4=>.tuple #[.i r4.1,.i r4.2]) (fun w _=>HF s.At t.At w) {} (fun r4 hr4=>Zc 10 [] [(8,.i r4.1)] {} (Zz (Zc 10 [2,1,1,1] [(49,Zs.v (⟨s.ID,t.Time,r4.1,0,t.Height,t.Code⟩:Zs))] {} (ZA 10 (fun b4=>.p0 b4) (fun b4=>Bk b4 (Zs.c Zs.zero) 89) (fun b4=>{}) (fun b4=>Yp 0 (Bk b4 (Zs.c (⟨s.ID,t.Time,r4.1,0,t.Height,t.Code⟩:Zs)) 89) (fun _=>{}) (Z1 (Zf (Zc 4 [3,2] [(51,P.v s.At),(53,P.v t.At)] {} (TL.v (sV (do eqGuard .neq 36 (.tmp 51) (.tmp 53) (P.v s.At) (P.v t.At);binOp .neq 36 (P.v s.At) (P.v t.At))) 54 (.b (!(P.eqb s.At t.At))) (fun w hM=>Tj (b:=P.eqb s.At t.At) Kr Kr w) {} (Zb rfl (TC.cond (!(P.eqb s.At t.At)) rfl Kr (fun h4=>?_) (fun h4=>?_))))))))))))))
    ·refine TC.region (Zc 4 [2,3] [(57,P.v t.At),(59,P.v s.At)] {} (TL.c 60 (J3 t.At s.At) (fun r5=>P.v r5) (fun w _=>HO t.At s.At w) {} (fun r5 hr5=>Qy (Γ:=Int×Int) (fun g=>.tuple #[.i g.1,.i g.2]) (fun g=>[.inr (Qm (g.1=(ofF r5).1∧g.2=(ofF r5).2))]) [] [Bk b4 (Zs.c (⟨s.ID,t.Time,r4.1,0,t.Height,t.Code⟩:Zs)) 89,Bk b3 (Zs.c Zs.zero) 89,Bk b2 (Zj.c t) 42,Bk b1 (Zn.c s) 85] (some 61) (fun g=>[(4,.p0 b3),(10,.p0 b4),(61,.tuple #[.i g.1,.i g.2])]) (fun w hM=>CH r5 w hM.pass (hT.sat hM)) Kr (fun g=>Kr) ?_)))
     rintro⟨r6,r7⟩
     refine Xm [.inr (Qm (r6=(ofF r5).1∧r7=(ofF r5).2)),Bk b4 (Zs.c (⟨s.ID,t.Time,r4.1,0,t.Height,t.Code⟩:Zs)) 89,Bk b3 (Zs.c Zs.zero) 89,Bk b2 (Zj.c t) 42,Bk b1 (Zn.c s) 85] (fun _ hM=>hM) (Y3 (fun w hM=>hM.fact_at 0 rfl) (fun ud=>X2 [Bk b4 (Zs.c (⟨s.ID,t.Time,r4.1,0,t.Height,t.Code⟩:Zs)) 89,Bk b3 (Zs.c Zs.zero) 89,Bk b2 (Zj.c t) 42,Bk b1 (Zn.c s) 85] (.cons _ (aB _)) ?_))
     have hr6:(ofF r5).1=r6:=(ud.1).symm
     have hr7:(ofF r5).2=r7:=(ud.2).symm
     exact Zc 10 [] [(62,.i r6),(64,.pt b4 3)] {} (Yp 0 (Bk b4 (Zs.c (⟨s.ID,t.Time,r4.1,r6,t.Height,t.Code⟩:Zs)) 89) (fun _=>{}) (Zz (Zc 1 [0] [(65,Zs.v (⟨s.ID,t.Time,r4.1,r6,t.Height,t.Code⟩:Zs))] {} (Yp 1 (Bk b3 (Zs.c (⟨s.ID,t.Time,r4.1,r6,t.Height,t.Code⟩:Zs)) 89) (fun _=>{}) (Zc 3 [] [(5,.i 0)] {} (Zb rfl (TC.ret (TE.ret [1] (.tuple #[Zs.v (⟨s.ID,t.Time,r4.1,r6,t.Height,t.Code⟩:Zs),.i 0]) {} (by unfold ZK;refine eS (a:=((⟨s.ID,t.Time,r4.1,r6,t.Height,t.Code⟩:Zs),0)) (fun (z:Zs×Int)=>(.tuple #[Zs.v z.1,.i z.2]:Value)) ?_;subst hr1 hr2 hr3 hr4 hr5 hr6 hr7;exact Ze h1 (Ze h2 (Ze h3 (Zm h4 (rfl)))))))))))))
    ·exact Yc (Zc 1 [0] [(65,Zs.v (⟨s.ID,t.Time,r4.1,0,t.Height,t.Code⟩:Zs))] {} (Yp 1 (Bk b3 (Zs.c (⟨s.ID,t.Time,r4.1,0,t.Height,t.Code⟩:Zs)) 89) (fun _=>{}) (Zc 3 [] [(5,.i 0)] {} (Zb rfl (TC.ret (TE.ret [1] (.tuple #[Zs.v (⟨s.ID,t.Time,r4.1,0,t.Height,t.Code⟩:Zs),.i 0]) {} (by unfold ZK;refine eS (a:=((⟨s.ID,t.Time,r4.1,0,t.Height,t.Code⟩:Zs),0)) (fun (z:Zs×Int)=>(.tuple #[Zs.v z.1,.i z.2]:Value)) ?_;subst hr1 hr2 hr3 hr4;exact Ze h1 (Ze h2 (Ze h3 (Ze h4 (rfl)))))))))))
end Go.Sky
end
section
namespace Go.Sky
open Go Go.Eng
def Zad (k:Nat):Bool:=decide (268412285≤sn k*sn k+cs k*cs k)&&decide (sn k*sn k+cs k*cs k≤268458627) &&
 decide ((sn k-sn (k+1))*(sn k-sn (k+1))+(cs k-cs (k+1))*(cs k-cs (k+1))≤729)
def D8 (k j:Nat):Bool:=decide (423801*((sn k-sn (k+j))*(sn k-sn (k+j))+(cs k-cs (k+j))*(cs k-cs (k+j)))≤(16384*((j:Int)+1)-10416)*(16384*((j:Int)+1)-10416))
def HG (f:Nat→Bool) (a:Nat):Nat→Bool
 | 0=>true
 | n+1=>f a&&HG f (a+1) n
theorem SS (f:Nat→Bool) (a n:Nat):HG f a (n+1)=(f a&&HG f (a+1) n):=rfl
theorem VQ (f:Nat→Bool) (n:Nat):∀ a,HG f a n=true→∀ k,a≤k→k<a+n→f k=true:=by
 induction n with
 | zero=>intro a _ k h1 h2;omega
 | succ n ih =>
  intro a h k h1 h2
  rw[SS,aX] at h
  by_cases he:a=k
  ·rw[← he];exact h.1
  ·exact ih (a+1) h.2 k (by omega) (by omega)
set_option maxRecDepth 100000
theorem Aa:HG Zad 0 1024=true:=by kernel_rfl
theorem EV:HG (fun k=>HG (D8 k) 0 100) 0 256=true:=by kernel_rfl
theorem EW:HG (fun k=>HG (D8 k) 0 100) 256 256=true:=by kernel_rfl
theorem EX:HG (fun k=>HG (D8 k) 0 100) 512 256=true:=by kernel_rfl
theorem EY:HG (fun k=>HG (D8 k) 0 100) 768 256=true:=by kernel_rfl
end Go.Sky
end
section
namespace Go.Sky
open Go Go.Eng
theorem Vf (x:Int):0≤x*x:=by
 rcases fK 0 x with g|g
 ·exact aV g g
 ·rw[← cK];exact aV (by omega) (by omega)
theorem KQ {x y:Int} (h0:0≤x) (h:x≤y):x*x≤y*y:=bP h h h0 (by omega)
theorem Re {x y:Int} (h1:-y≤x) (h2:x≤y):x*x≤y*y:=by
 rcases fK 0 x with g|g
 ·exact KQ g h2
 ·rw[← cK];exact KQ (by omega) (by omega)
theorem TR {x y:Int} (hy:0≤y) (h:x*x≤y*y):-y≤x∧x≤y:=by
 constructor
 ·rcases dC x (-y) with g|g
  ·exfalso
   have:=KQ (x:=y+1) (y:=-x) (by omega) (by omega)
   rw[cK] at this
   have e:(y+1)*(y+1)=y*y+2*y+1:=by grind
   omega
  ·exact g
 ·rcases dC y x with g|g
  ·exfalso
   have:=KQ (x:=y+1) (y:=x) (by omega) (by omega)
   have e:(y+1)*(y+1)=y*y+2*y+1:=by grind
   omega
  ·exact g
theorem tri {a b c d R S:Int} (hR:0≤R) (hS:0≤S) (h1:a*a+b*b≤R*R) (h2:c*c+d*d≤S*S):(a+c)*(a+c)+(b+d)*(b+d)≤(R+S)*(R+S):=by
 have hRS:0≤R*S:=aV hR hS
 have e1:(a*c+b*d)*(a*c+b*d)+(a*d-b*c)*(a*d-b*c)=(a*a+b*b)*(c*c+d*d):=by grind
 have e2:=Vf (a*d-b*c)
 have e3:(a*a+b*b)*(c*c+d*d)≤(R*R)*(S*S):=bP h1 h2 (by have:=Vf c;have:=Vf d;omega) (Vf R)
 have e4:(R*R)*(S*S)=(R*S)*(R*S):=by grind
 have key:=(TR hRS (x:=a*c+b*d) (by omega)).2
 have e7:(a+c)*(a+c)+(b+d)*(b+d)=(a*a+b*b)+(c*c+d*d)+2*(a*c+b*d):=by grind
 have e8:(R+S)*(R+S)=R*R+S*S+2*(R*S):=by grind
 omega
theorem OM {a b R m:Int} (hm:0<m) (h:(m*a)*(m*a)+(m*b)*(m*b)≤(m*R)*(m*R)):a*a+b*b≤R*R:=by
 have e1:(m*a)*(m*a)+(m*b)*(m*b)=(m*m)*(a*a+b*b):=by grind
 have e2:(m*R)*(m*R)=(m*m)*(R*R):=by grind
 rw[e1,e2] at h
 exact fB h (gP hm hm)
theorem D9 {a b R m:Int} (hR:a*a+b*b≤R*R):(m*a)*(m*a)+(m*b)*(m*b)≤(m*R)*(m*R):=by
 have e1:(m*a)*(m*a)+(m*b)*(m*b)=(m*m)*(a*a+b*b):=by grind
 have e2:(m*R)*(m*R)=(m*m)*(R*R):=by grind
 rw[e1,e2]
 exact bM hR (Vf m)
theorem HZ {Q:Nat→Prop} (h1:∀ k,k<1024→Q k) (h2:∀ k,Q k→Q (k+1024)):∀ k,Q k:=by
 have key:∀ q i,i<1024→Q (i+1024*q):=by
  intro q
  induction q with
  | zero=>intro i hi;exact h1 i hi
  | succ q ih =>
   intro i hi
   rw[show i+1024*(q+1)=i+1024*q+1024 by omega]
   exact h2 _ (ih i hi)
 intro k
 have:=key (k/1024) (k%1024) (by omega)
 rwa [show k%1024+1024*(k/1024)=k by omega] at this
theorem M9 (k:Nat):(268412285≤sn k*sn k+cs k*cs k∧sn k*sn k+cs k*cs k≤268458627)∧(sn k-sn (k+1))*(sn k-sn (k+1))+(cs k-cs (k+1))*(cs k-cs (k+1))≤729:=by
 refine HZ (Q:=fun k=>(268412285≤sn k*sn k+cs k*cs k∧sn k*sn k+cs k*cs k≤268458627)∧(sn k-sn (k+1))*(sn k-sn (k+1))+(cs k-cs (k+1))*(cs k-cs (k+1))≤729) ?_ ?_ k
 ·intro k hk
  have h:=VQ _ 1024 0 Aa k (by omega) (by omega)
  unfold Zad at h
  simp only[aX,decide_eq_true_eq] at h
  exact h
 ·intro k h
  rw[show k+1024+1=k+1+1024 by omega,Gk,Gk,Gl,Gl]
  generalize sn k=a at *;generalize cs k=b at *;generalize sn (k+1)=c at *;generalize cs (k+1)=d at *
  have e1:b*b + -a * -a=a*a+b*b:=by grind
  have e2:(b-d)*(b-d)+(-a - -c)*(-a - -c)=(a-c)*(a-c)+(b-d)*(b-d):=by grind
  rw[e1,e2];exact h
theorem FX (k j:Nat) (hj:j<100):423801*((sn k-sn (k+j))*(sn k-sn (k+j))+(cs k-cs (k+j))*(cs k-cs (k+j)))≤(16384*((j:Int)+1)-10416)*(16384*((j:Int)+1)-10416):=by
 refine HZ (Q:=fun k=>423801*((sn k-sn (k+j))*(sn k-sn (k+j))+(cs k-cs (k+j))*(cs k-cs (k+j)))≤(16384*((j:Int)+1)-10416)*(16384*((j:Int)+1)-10416)) ?_ ?_ k
 ·intro k hk
  have h:D8 k j=true:=by
   by_cases c1:k<256
   ·exact VQ _ 100 0 (VQ _ 256 0 EV k (by omega) (by omega)) j (by omega) (by omega)
   by_cases c2:k<512
   ·exact VQ _ 100 0 (VQ _ 256 256 EW k (by omega) (by omega)) j (by omega) (by omega)
   by_cases c3:k<768
   ·exact VQ _ 100 0 (VQ _ 256 512 EX k (by omega) (by omega)) j (by omega) (by omega)
   ·exact VQ _ 100 0 (VQ _ 256 768 EY k (by omega) (by omega)) j (by omega) (by omega)
  exact of_decide_eq_true h
 ·intro k h
  rw[show k+1024+j=k+j+1024 by omega,Gk,Gk,Gl,Gl]
  generalize sn k=a at *;generalize cs k=b at *;generalize sn (k+j)=c at *;generalize cs (k+j)=d at *
  have e2:(b-d)*(b-d)+(-a - -c)*(-a - -c)=(a-c)*(a-c)+(b-d)*(b-d):=by grind
  rw[e2];exact h
def Zae (a b x y:Int):Prop:=0≤a*x+b*y∧4*((b*x-a*y)*(b*x-a*y))≤729*(x*x+y*y)
def Uy (h:Nat) (x y:Int):Prop:=Zae (sn h) (cs h) x y
set_option maxRecDepth 20000 in
theorem CL {k:Nat} {x y:Int} (hk:k<4096) (h:Sec k x y):0≤sn (k+1)*x+cs (k+1)*y:=by
 have first:∀ (i:Nat) (x y:Int),i<1024→0≤x→0<y→0≤sn (i+1)*x+cs (i+1)*y:=by
  intro i x y hi hx hy
  rw[CB (by omega),CC (by omega)]
  have a:=aV (aQ (XE (i+1))) hx
  have b:=aV (aQ (XE (1024-(i+1)))) (gG hy)
  omega
 have turn:∀ (i:Nat) (x y:Int),0≤sn (i+1) * -y+cs (i+1)*x→0≤sn (i+1024+1)*x+cs (i+1024+1)*y:=by
  intro i x y h
  rw[show i+1024+1=i+1+1024 by omega,Gk,Gl]
  generalize sn (i+1)=a at *;generalize cs (i+1)=b at *
  have e:b*x + -a*y=a * -y+b*x:=by grind
  rw[e];exact h
 rcases HE hk h with a|a|a|a
 ·exact first k x y a.1 a.2.1 a.2.2.1
 ·have:=first (k-1024) (-y) x (by omega) a.2.2.1 a.2.2.2.1
  have t:=turn (k-1024) x y this
  rwa [show k-1024+1024=k by omega] at t
 ·have:=first (k-2048) (-x) (-y) (by omega) a.2.2.1 a.2.2.2.1
  have t:=turn (k-2048) (-y) x (by exact this)
  have t2:=turn (k-2048+1024) x y t
  rwa [show k-2048+1024+1024=k by omega] at t2
 ·have:=first (k-3072) y (-x) (by omega) a.2.1 a.2.2.1
  have t:=turn (k-3072) (-x) (-y) (by rw[fV];exact this)
  have t2:=turn (k-3072+1024) (-y) x (by exact t)
  have t3:=turn (k-3072+1024+1024) x y t2
  rwa [show k-3072+1024+1024+1024=k by omega] at t3
theorem Ab (a b x y:Int):(a*x+b*y)*(a*x+b*y)≤(a*a+b*b)*(x*x+y*y):=by
 have e:(a*x+b*y)*(a*x+b*y)+(a*y-b*x)*(a*y-b*x)=(a*a+b*b)*(x*x+y*y):=by grind
 have:=Vf (a*y-b*x)
 omega
theorem Rf {k:Nat} {x y:Int} (hk:k<4096) (h:Sec k x y) :
  (cs k*x-sn k*y≤y*sn (k+1)-x*cs (k+1)→Uy k x y)∧(¬ cs k*x-sn k*y≤y*sn (k+1)-x*cs (k+1)→Uy (k+1) x y):=by
 have hc:=Ab (cs k-cs (k+1)) (-(sn k-sn (k+1))) x y
 have hl:=(M9 k).2
 have hf:=CL hk h
 obtain⟨h1,h2,h3⟩:=h
 unfold Uy
 generalize sn k=a at *;generalize cs k=b at *;generalize sn (k+1)=c at *;generalize cs (k+1)=d at *
 have e0:(b-d)*(b-d) + -(a-c) * -(a-c)=(a-c)*(a-c)+(b-d)*(b-d):=by grind
 rw[e0] at hc
 have hn:0≤x*x+y*y:=by have:=Vf x;have:=Vf y;omega
 have h729:((a-c)*(a-c)+(b-d)*(b-d))*(x*x+y*y)≤729*(x*x+y*y):=aY hl hn
 have e1:(b-d)*x + -(a-c)*y=(b*x-a*y)+(y*c-x*d):=by grind
 rw[e1] at hc
 generalize hp:b*x-a*y=p at *
 generalize hq:y*c-x*d=q at *
 constructor
 ·intro hle
  have s:=KQ (x:=2*p) (y:=p+q) (by omega) (by omega)
  have e2:(2*p)*(2*p)=4*(p*p):=by grind
  exact⟨by omega,by rw[hp];omega⟩
 ·intro hlt
  have s:=KQ (x:=2*q) (y:=p+q) (by omega) (by omega)
  have e2:(2*q)*(2*q)=4*(q*q):=by grind
  have e3:d*x-c*y=-q:=by rw[← hq];grind
  exact⟨hf,by rw[e3,cK];omega⟩
theorem Uy.round {k:Nat} {x y:Int} (h:Uy k x y):Uy (k%4096) x y:=by
 unfold Uy at *
 rw[Hf,Hg];exact h
section
variable {h:Nat} {x y r:Int}
theorem Zay (hN:Uy h x y) (hr:0≤r) (h1:r*r≤x*x+y*y) (h2:x*x+y*y<(r+1)*(r+1)) :
  (16384*x-r*sn h)*(16384*x-r*sn h)+(16384*y-r*cs h)*(16384*y-r*cs h)≤(16*r+16401)*(16*r+16401):=by
 obtain⟨f,sd⟩:=hN
 have hU:=(M9 h).1
 generalize sn h=a at *;generalize cs h=b at *
 obtain⟨U,eU⟩:∃ U,a*a+b*b=U:=⟨_,rfl⟩
 obtain⟨n,en⟩:∃ n,x*x+y*y=n:=⟨_,rfl⟩
 obtain⟨g,eg⟩:∃ g,a*x+b*y=g:=⟨_,rfl⟩
 obtain⟨c,ec⟩:∃ c,b*x-a*y=c:=⟨_,rfl⟩
 have lag:g*g+c*c=n*U:=by rw[← eg,← ec,← en,← eU];grind
 have ident:U*((16384*x-r*a)*(16384*x-r*a)+(16384*y-r*b)*(16384*y-r*b))=(16384*g-U*r)*(16384*g-U*r)+(16384*c)*(16384*c):=by
  have i1:(16384*x-r*a)*(16384*x-r*a)+(16384*y-r*b)*(16384*y-r*b)=268435456*n-32768*r*g+r*r*U:=by rw[← en,← eg,← eU];grind
  have i2:(16384*g-U*r)*(16384*g-U*r)+(16384*c)*(16384*c)=268435456*(g*g+c*c)-32768*g*U*r+U*r*(U*r):=by grind
  rw[i1,i2,lag];grind
 rw[eU] at hU
 rw[eg] at f
 rw[ec,en] at sd
 rw[en] at h1 h2
 have cc:=Vf c
 have n0:0≤n:=by have:=Vf r;omega
 have g1:g*g≤(16385*(r+1))*(16385*(r+1)):=by
  have q1:n*U≤((r+1)*(r+1))*268468225:=bP (by omega) (by omega) (by omega) (Vf _)
  have q2:(16385*(r+1))*(16385*(r+1))=((r+1)*(r+1))*268468225:=by grind
  omega
 have g2:=(TR (by omega) g1).2
 have g3:(16383*r)*(16383*r)≤g*g:=by
  have q1:(r*r)*1073648411≤n*(4*U-729):=bP h1 (by omega) (by omega) n0
  have q2:n*(4*U-729)=4*(n*U)-729*n:=by grind
  have q3:(16383*r)*(16383*r)=(r*r)*268402689:=by grind
  have:=Vf r
  omega
 have g4:16383*r≤g:=by
  rcases dC g (16383*r) with hlt|hle
  ·exfalso
   have:=KQ (x:=g+1) (y:=16383*r) (by omega) (by omega)
   have e:(g+1)*(g+1)=g*g+2*g+1:=by grind
   omega
  ·exact hle
 have ur1:U*r≤268458627*r:=aY (by omega) hr
 have ur2:268412285*r≤U*r:=aY (by omega) hr
 have al1:16384*g-U*r≤39555*r+268451840:=by omega
 have al2:-(39555*r+268451840)≤16384*g-U*r:=by omega
 have c1:(2*c)*(2*c)≤(27*(r+1))*(27*(r+1)):=by
  have q1:(2*c)*(2*c)=4*(c*c):=by grind
  have q2:(27*(r+1))*(27*(r+1))=729*((r+1)*(r+1)):=by grind
  omega
 have c2:=TR (by omega) c1
 have b1:(16384*g-U*r)*(16384*g-U*r)≤(39555*r+268451840)*(39555*r+268451840):=Re al2 al1
 have b2:(16384*c)*(16384*c)≤(221184*(r+1))*(221184*(r+1)):=Re (by omega) (by omega)
 have b3:(39555*r+268451840)*(39555*r+268451840)+(221184*(r+1))*(221184*(r+1))≤(39555*r+268451840+221184*(r+1))*(39555*r+268451840+221184*(r+1)):=by
  have q:=aV (show 0≤39555*r+268451840 by omega) (show 0≤221184*(r+1) by omega)
  generalize 39555*r+268451840=A at *
  generalize 221184*(r+1)=B at *
  have e:(A+B)*(A+B)=A*A+B*B+2*(A*B):=by grind
  omega
 have b4:(39555*r+268451840+221184*(r+1))*(39555*r+268451840+221184*(r+1))≤(16383*(16*r+16401))*(16383*(16*r+16401)):=KQ (by omega) (by omega)
 have b5:(16383*(16*r+16401))*(16383*(16*r+16401))≤U*((16*r+16401)*(16*r+16401)):=by
  have q:(16383*(16*r+16401))*(16383*(16*r+16401))=268402689*((16*r+16401)*(16*r+16401)):=by grind
  rw[q]
  exact aY (by omega) (Vf _)
 refine fB (a:=U) ?_ (by omega)
 omega
theorem ON {p:Int} (hN:Uy h x y) (hr:0≤r) (h1:r*r≤x*x+y*y) (h2:x*x+y*y<(r+1)*(r+1)) (hp:0≤p) {m:Int} (hm1:p-r≤m) (hm2:r-p≤m) :
  (16384*x-p*sn h)*(16384*x-p*sn h)+(16384*y-p*cs h)*(16384*y-p*cs h)≤(16384*m+16*p+16401)*(16384*m+16*p+16401):=by
 have hE:=Zay hN hr h1 h2
 have hU:=(M9 h).1
 generalize sn h=a at *;generalize cs h=b at *
 by_cases c:r≤p
 ·have q1:(-((p-r)*a))*(-((p-r)*a))+(-((p-r)*b))*(-((p-r)*b))≤(16385*(p-r))*(16385*(p-r)):=by
   have e1:(-((p-r)*a))*(-((p-r)*a))+(-((p-r)*b))*(-((p-r)*b))=((p-r)*(p-r))*(a*a+b*b):=by grind
   have e2:(16385*(p-r))*(16385*(p-r))=((p-r)*(p-r))*268468225:=by grind
   rw[e1,e2]
   exact bM (by omega) (Vf _)
  have t:=tri (by omega) (by omega) hE q1
  have e3:16384*x-r*a + -((p-r)*a)=16384*x-p*a:=by grind
  have e4:16384*y-r*b + -((p-r)*b)=16384*y-p*b:=by grind
  rw[e3,e4] at t
  exact dN t (KQ (by omega) (by omega))
 ·have hrp:0<r:=by omega
  refine dN ?_ (KQ (x:=16384*(r-p)+16*p+16401) (by omega) (by omega))
  refine OM hrp ?_
  have q1:(16384*(r-p)*x)*(16384*(r-p)*x)+(16384*(r-p)*y)*(16384*(r-p)*y)≤(16384*(r-p)*(r+1))*(16384*(r-p)*(r+1)):=by
   refine D9 ?_
   omega
  have q2:=D9 (m:=p) hE
  have n1:0≤16384*(r-p)*(r+1):=aV (by omega) (by omega)
  have n2:0≤p*(16*r+16401):=aV hp (by omega)
  have t:=tri n1 n2 q1 q2
  have e3:16384*(r-p)*x+p*(16384*x-r*a)=r*(16384*x-p*a):=by grind
  have e4:16384*(r-p)*y+p*(16384*y-r*b)=r*(16384*y-p*b):=by grind
  rw[e3,e4] at t
  refine dN t (KQ (by omega) ?_)
  have e5:r*(16384*(r-p)+16*p+16401)-(16384*(r-p)*(r+1)+p*(16*r+16401))=17*(r-p):=by grind
  omega
theorem DC {p A R e vx vy:Int} {g j:Nat} (hN:Uy h x y) (hr:0≤r) (h1:r*r≤x*x+y*y) (h2:x*x+y*y<(r+1)*(r+1)) (hp:0≤p) (hm1:p-r≤R-1) (hm2:r-p≤R-1)
  (hg:g=h+j∨h=g+j) (hj:(j:Int)+1≤A) (hA:A≤100) (hvx:-8192≤p*sn g-16384*vx∧p*sn g-16384*vx≤8192) (hvy:-8192≤p*cs g-16384*vy∧p*cs g-16384*vy≤8192)
  (he:651*(R+2)+p*A≤651*e):(x-vx)*(x-vx)+(y-vy)*(y-vy)≤e*e:=by
 have t1:=D9 (m:=651) (ON hN hr h1 h2 hp hm1 hm2)
 have hch:423801*((sn h-sn g)*(sn h-sn g)+(cs h-cs g)*(cs h-cs g))≤(16384*((j:Int)+1)-10416)*(16384*((j:Int)+1)-10416):=by
  rcases hg with rfl|rfl
  ·exact FX h j (by omega)
  ·have:=FX g j (by omega)
   generalize sn g=a at *;generalize cs g=b at *;generalize sn (g+j)=c at *;generalize cs (g+j)=d at *
   have e:(c-a)*(c-a)+(d-b)*(d-b)=(a-c)*(a-c)+(b-d)*(b-d):=by grind
   rw[e];exact this
 have hch2:(651*(sn h-sn g))*(651*(sn h-sn g))+(651*(cs h-cs g))*(651*(cs h-cs g))≤(16384*A-10416)*(16384*A-10416):=by
  have e:(651*(sn h-sn g))*(651*(sn h-sn g))+(651*(cs h-cs g))*(651*(cs h-cs g))=423801*((sn h-sn g)*(sn h-sn g)+(cs h-cs g)*(cs h-cs g)):=by grind
  rw[e]
  exact dN hch (KQ (by omega) (by omega))
 have t2:=D9 (m:=p) hch2
 have t3:(651*(p*sn g-16384*vx))*(651*(p*sn g-16384*vx))+(651*(p*cs g-16384*vy))*(651*(p*cs g-16384*vy))≤(651*11586)*(651*11586):=by
  refine D9 ?_
  have a:=Re hvx.1 hvx.2
  have b:=Re hvy.1 hvy.2
  omega
 have n2:0≤p*(16384*A-10416):=aV hp (by omega)
 have u1:=tri (by omega) n2 t1 t2
 have u2:=tri (by omega) (by decide) u1 t3
 generalize sn h=a at *;generalize cs h=b at *;generalize sn g=c at *;generalize cs g=d at *
 have e1:651*(16384*x-p*a)+p*(651*(a-c))+651*(p*c-16384*vx)=10665984*(x-vx):=by grind
 have e2:651*(16384*y-p*b)+p*(651*(b-d))+651*(p*d-16384*vy)=10665984*(y-vy):=by grind
 rw[e1,e2] at u2
 refine OM (m:=10665984) (by decide) (dN u2 (KQ (by omega) ?_))
 have e3:p*(16384*A-10416)=16384*(p*A)-10416*p:=by grind
 omega
end
end Go.Sky
end
