/- Lemmas toward the given statement (part 10 of 20): Dir TabAll Gu Gf OfB Gv Gw Wr PlanB. Each theorem states its own conditions; nothing is assumed beyond them. -/
import Derived.Test.YtmiemlhgkgfkeaaGreatDoorTw05
import Derived.Test.YtmiemlhgkgfkeaaGreatDoorTw06
import Derived.Test.YtmiemlhgkgfkeaaGreatDoorTw07
import Derived.Test.YtmiemlhgkgfkeaaGreatDoorTw08
import Derived.Test.YtmiemlhgkgfkeaaGreatDoorTw09
import Derived.Test.YtmiemlhgkgfkeaaGreatDoorTw03
import Derived.Test.YtmiemlhgkgfkeaaGreatDoorTw02
set_option maxRecDepth 100000
section
namespace Go.Sky
open Go Go.Eng
def BZ (a:Nat):Nat→Bool
 | 0=>true
 | n+1=>(decide (XE a≤16384)&&decide (0<XE (1024-a))&&decide (XE a*XE (1024-(a+1))<XE (1024-a)*XE (a+1)))&&BZ (a+1) n
theorem Lc (a n:Nat):BZ a (n+1)=((decide (XE a≤16384)&&decide (0<XE (1024-a))&&decide (XE a*XE (1024-(a+1))<XE (1024-a)*XE (a+1)))&&BZ (a+1) n):=rfl
theorem H7 (n:Nat):∀ a,BZ a n=true→∀ k,a≤k→k<a+n→XE k≤16384∧0<XE (1024-k)∧XE k*XE (1024-(k+1))<XE (1024-k)*XE (k+1):=by
 induction n with
 | zero=>intro a _ k h1 h2;omega
 | succ n ih =>
  intro a h k h1 h2
  rw[Lc,aW,aW,aW] at h
  by_cases he:a=k
  ·rw[← he];exact⟨of_decide_eq_true h.1.1.1,of_decide_eq_true h.1.1.2,of_decide_eq_true h.1.2⟩
  ·exact ih (a+1) h.2 k (by omega) (by omega)
theorem H8:BZ 0 1024=true:=by kernel_rfl
theorem WW:XE 0=0:=by kernel_rfl
theorem Da:XE 1024=16384:=by kernel_rfl
theorem WX {k:Nat} (h:k≤1024):XE k≤16384:=by
 by_cases he:k=1024
 ·subst he;rw[Da];decide
 ·exact(H7 1024 0 H8 k (by omega) (by omega)).1
theorem H9 {k:Nat} (h:k<1024):0<XE (1024-k):=(H7 1024 0 H8 k (by omega) (by omega)).2.1
theorem Db {k:Nat} (h:k<1024):XE k*XE (1024-(k+1))<XE (1024-k)*XE (k+1):=(H7 1024 0 H8 k (by omega) (by omega)).2.2
theorem Ru {n:Nat} (h:n≤1024):Gw n=(XE n:Int):=by unfold Gw;rw[fG h];rfl
theorem F5 {a b:Nat} (h:b<a):Nat.ble a b=false:=by
 cases hb:Nat.ble a b with
 | false=>rfl
 | true=>have:=aL hb;omega
theorem TJ {n:Nat} (h1:1024<n) (h:n≤2048):Gw n=(XE (2048-n):Int):=by unfold Gw;rw[F5 h1,fG h];rfl
theorem IA {n:Nat} (h1:2048<n) (h:n≤3072):Gw n=-(XE (n-2048):Int):=by unfold Gw;rw[F5 (show 1024<n by omega),F5 h1,fG h];rfl
theorem IB {n:Nat} (h1:3072<n):Gw n=-(XE (4096-n):Int):=by unfold Gw;rw[F5 (show 1024<n by omega),F5 (show 2048<n by omega),F5 h1];rfl
theorem Rw {n:Nat} (h:n<4096):-16384≤Gw n∧Gw n≤16384:=by
 by_cases c1:n≤1024
 ·rw[Ru c1];have:=WX c1;omega
 by_cases c2:n≤2048
 ·rw[TJ (by omega) c2];have:=WX (show 2048-n≤1024 by omega);omega
 by_cases c3:n≤3072
 ·rw[IA (by omega) c3];have:=WX (show n-2048≤1024 by omega);omega
 ·rw[IB (by omega)];have:=WX (show 4096-n≤1024 by omega);omega
theorem P9 {n:Nat} (h:n<4096):Gw ((n+2048)%4096)=-Gw n:=by
 by_cases c0:n=0
 ·subst c0;rw[show (0+2048)%4096=2048 from rfl,TJ (n:=2048) (by decide) (by decide),Ru (n:=0) (by decide),show 2048-2048=0 from rfl,WW];rfl
 by_cases c1:n≤1024
 ·rw[show (n+2048)%4096=n+2048 by omega,IA (by omega) (by omega),Ru c1,show n+2048-2048=n by omega]
 by_cases c2:n≤2048
 ·by_cases c:n=2048
  ·subst c;rw[show (2048+2048)%4096=0 from rfl,TJ (n:=2048) (by decide) (by decide),Ru (n:=0) (by decide),show 2048-2048=0 from rfl,WW];rfl
  ·rw[show (n+2048)%4096=n+2048 by omega,IB (by omega),TJ (by omega) c2,show 4096-(n+2048)=2048-n by omega]
 by_cases c3:n≤3072
 ·rw[show (n+2048)%4096=n-2048 by omega,Ru (by omega),IA (by omega) c3];omega
 ·rw[show (n+2048)%4096=n-2048 by omega,TJ (by omega) (by omega),IB (by omega),show 2048-(n-2048)=4096-n by omega];omega
def sn (k:Nat):Int:=Gw (k%4096)
def cs (k:Nat):Int:=Gw ((k+1024)%4096)
theorem F6 (k:Nat):-16384≤sn k∧sn k≤16384:=Rw (eN _ (by decide))
theorem F7 (k:Nat):-16384≤cs k∧cs k≤16384:=Rw (eN _ (by decide))
theorem Gi (k:Nat):sn (k+1024)=cs k:=rfl
theorem Gj (k:Nat):cs (k+1024)=-sn k:=by
 unfold cs sn
 rw[show (k+1024+1024)%4096=(k%4096+2048)%4096 by omega]
 exact P9 (eN _ (by decide))
theorem WY (k:Nat):sn (k%4096)=sn k:=by unfold sn;rw[Nat.mod_mod]
theorem WZ (k:Nat):cs (k%4096)=cs k:=by unfold cs;rw[show (k%4096+1024)%4096=(k+1024)%4096 by omega]
theorem Rx {k:Nat} (h:k≤1024):sn k=(XE k:Int):=by unfold sn;rw[cI (by omega)];exact Ru h
theorem Ry {k:Nat} (h:k≤1024):cs k=(XE (1024-k):Int):=by
 unfold cs
 rw[cI (by omega)]
 by_cases h0:k=0
 ·subst h0;exact Ru (by decide)
 ·rw[TJ (by omega) (by omega),show 2048-(k+1024)=1024-k by omega]
def Sec (k:Nat) (x y:Int):Prop:=0≤cs k*x-sn k*y∧0<y*sn (k+1)-x*cs (k+1)∧0<sn k*x+cs k*y
instance (k:Nat) (x y:Int):Decidable (Sec k x y):=by unfold Sec;infer_instance
theorem Vb (k:Nat) (x y:Int):Sec (k+1024) x y↔Sec k (-y) x:=by
 unfold Sec
 rw[show k+1024+1=k+1+1024 by omega,Gi,Gi,Gj,Gj]
 generalize cs k=a;generalize sn k=b;generalize cs (k+1)=c;generalize sn (k+1)=d
 have e1:-b*x-a*y=a * -y-b*x:=by grind
 have e2:y*c-x * -d=x*d - -y*c:=by grind
 have e3:a*x + -b*y=b * -y+a*x:=by grind
 rw[e1,e2,e3]
theorem K8 {k:Nat} {x y:Int} (hk:k<1024) (h:Sec k x y):0≤x∧0<y:=by
 obtain⟨h1,h2,h3⟩:=h
 rw[Rx (by omega),Ry (by omega)] at h1 h3
 rw[Rx (by omega),Ry (by omega)] at h2
 have p1:=H9 hk
 have p4:0<XE (k+1):=by
  have:=Db hk
  rcases bM (XE (k+1)) with h|h
  ·rw[h,gH] at this;omega
  ·exact h
 generalize XE k=a at *;generalize XE (1024-k)=b at *;generalize XE (k+1)=c at *;generalize XE (1024-(k+1))=d at *
 have hy:0<y:=by
  rcases dI 0 y with hy|hy
  ·exact hy
  ·exfalso
   have n1:(a:Int)*y≤0:=dV (aO _) hy
   have n2:(b:Int)*y≤0:=dV (aO _) hy
   have n3:y*(c:Int)≤0:=Int.mul_nonpos_of_nonpos_of_nonneg hy (aO _)
   rcases dI 0 x with hx|hx
   ·have n4:0≤x*(d:Int):=aY (fD hx) (aO _)
    omega
   ·have n4:(a:Int)*x≤0:=dV (aO _) hx
    omega
 refine⟨?_,hy⟩
 rcases dI x 0 with hx|hx
 ·exfalso
  have n1:0≤(a:Int)*y:=aY (aO _) (fD hy)
  have n2:(b:Int)*x<0:=gB (by omega) hx
  omega
 ·exact hx
theorem Ld {k:Nat} {x y:Int} (hk:k<1024) (hy:0<y) (h:0≤cs (k+1)*x-sn (k+1)*y):0≤cs k*x-sn k*y:=by
 rw[Rx (by omega),Ry (by omega)] at h ⊢
 have p1:=H9 hk
 have t:=Db hk
 generalize XE k=a at *;generalize XE (1024-k)=b at *;generalize XE (k+1)=c at *;generalize XE (1024-(k+1))=d at *
 have p4:0<c:=by rcases bM c with h|h;rw[h,gH] at t;omega;exact h
 have t':(a:Int)*d<b*c:=by rw[← fR,← fR];exact cC.2 t
 rcases bM d with hd|hd
 ·exfalso
  subst hd
  have:0<(c:Int)*y:=gP (by omega) hy
  simp at h;omega
 ·
  have e1:(d:Int)*((b:Int)*x-a*y)=b*(d*x-c*y)+(b*c-a*d)*y:=by grind
  have q1:0≤(b:Int)*(d*x-c*y):=aY (by omega) h
  have q2:0<((b:Int)*c-a*d)*y:=gP (by omega) hy
  have q3:0<(d:Int)*((b:Int)*x-a*y):=by omega
  rcases dI ((b:Int)*x-a*y) 0 with h5|h5
  ·have:=gB (show (0:Int)<d by omega) h5;omega
  ·exact h5
theorem Rz {x y:Int} (hy:0<y):∀ (n k:Nat),k+n≤1024→0≤cs (k+n)*x-sn (k+n)*y→0≤cs k*x-sn k*y:=by
 intro n
 induction n with
 | zero=>intro k _ h;exact h
 | succ n ih=>intro k hk h;exact ih k (by omega) (Ld (k:=k+n) (by omega) hy h)
theorem Dc {k l:Nat} {x y:Int} (hl:l<1024) (hkl:k<l) (hy:0<y) (h:Sec k x y) (h':Sec l x y):False:=by
 have a:=Rz (x:=x) hy (l-(k+1)) (k+1) (by omega) (by rw[show k+1+(l-(k+1))=l by omega];exact h'.1)
 have b:=h.2.1
 generalize cs (k+1)=c at *;generalize sn (k+1)=d at *
 have e:y*d-x*c=-(c*x-d*y):=by grind
 omega
theorem B0 {k l:Nat} {x y:Int} (hk:k<1024) (hl:l<1024) (h:Sec k x y) (h':Sec l x y):k=l:=by
 have hy:=(K8 hk h).2
 rcases fC k l with c|c|c
 ·exact(Dc hl c hy h h').elim
 ·exact c
 ·exact(Dc hk c hy h' h).elim
theorem Ha {x y:Int} (hx:0≤x) (hy:0<y):∃ k,k<1024∧Sec k x y:=by
 have key:∀ n,n≤1024→(∃ k,k<n∧Sec k x y)∨0≤cs n*x-sn n*y:=by
  intro n
  induction n with
  | zero =>
   intro _
   refine .inr ?_
   rw[Rx (by omega),Ry (by omega),WW,show 1024-0=1024 from rfl,Da]
   simp;omega
  | succ n ih =>
   intro hn
   rcases ih (by omega) with ⟨k,h1,h2⟩|h
   ·exact .inl ⟨k,by omega,h2⟩
   ·by_cases c:0≤cs (n+1)*x-sn (n+1)*y
    ·exact .inr c
    ·refine .inl ⟨n,by omega,h,?_,?_⟩
     ·generalize cs (n+1)=q at *;generalize sn (n+1)=d at *
      have e:y*d-x*q=-(q*x-d*y):=by grind
      omega
     ·rw[Rx (by omega),Ry (by omega)]
      have p1:=H9 (show n<1024 by omega)
      have q1:0≤(XE n:Int)*x:=aY (aO _) hx
      have q2:0<(XE (1024-n):Int)*y:=gP (by omega) hy
      omega
 rcases key 1024 (by omega) with h|h
 ·exact h
 ·exfalso
  rw[Rx (by omega),Ry (by omega),show 1024-1024=0 from rfl,WW,Da] at h
  simp at h;omega
theorem HA {k:Nat} {x y:Int} (hk:k<4096) (h:Sec k x y):(k<1024∧0≤x∧0<y∧Sec k x y)∨(1024≤k∧k<2048∧0 ≤ -y∧0<x∧Sec (k-1024) (-y) x) ∨
  (2048≤k∧k<3072∧0 ≤ -x∧0 < -y∧Sec (k-2048) (-x) (-y))∨(3072≤k∧0≤y∧0 < -x∧Sec (k-3072) y (-x)):=by
 by_cases c1:k<1024
 ·exact .inl ⟨c1,(K8 c1 h).1,(K8 c1 h).2,h⟩
 have h1:Sec (k-1024) (-y) x:=(Vb (k-1024) x y).1 (by rw[show k-1024+1024=k by omega];exact h)
 by_cases c2:k<2048
 ·exact .inr (.inl ⟨by omega,c2,(K8 (by omega) h1).1,(K8 (by omega) h1).2,h1⟩)
 have h2:Sec (k-2048) (-x) (-y):=(Vb (k-2048) (-y) x).1 (by rw[show k-2048+1024=k-1024 by omega];exact h1)
 by_cases c3:k<3072
 ·exact .inr (.inr (.inl ⟨by omega,c3,(K8 (by omega) h2).1,(K8 (by omega) h2).2,h2⟩))
 have h3:Sec (k-3072) y (-x):=by
  have:=(Vb (k-3072) (-x) (-y)).1 (by rw[show k-3072+1024=k-2048 by omega];exact h2)
  rwa [fN] at this
 exact .inr (.inr (.inr ⟨by omega,(K8 (by omega) h3).1,(K8 (by omega) h3).2,h3⟩))
theorem PC {k l:Nat} {x y:Int} (hk:k<4096) (hl:l<4096) (h:Sec k x y) (h':Sec l x y):k=l:=by
 rcases HA hk h with a|a|a|a <;> rcases HA hl h' with b|b|b|b <;> first|omega|skip
 ·exact B0 a.1 b.1 a.2.2.2 b.2.2.2
 ·have:=B0 (by omega) (by omega) a.2.2.2.2 b.2.2.2.2;omega
 ·have:=B0 (by omega) (by omega) a.2.2.2.2 b.2.2.2.2;omega
 ·have:=B0 (by omega) (by omega) a.2.2.2 b.2.2.2;omega
theorem Eo {x y:Int} (h:¬ (x=0∧y=0)):∃ k,k<4096∧Sec k x y:=by
 by_cases c1:0≤x∧0<y
 ·obtain⟨k,h1,h2⟩:=Ha c1.1 c1.2
  exact⟨k,by omega,h2⟩
 by_cases c2:0 ≤ -y∧0<x
 ·obtain⟨k,h1,h2⟩:=Ha c2.1 c2.2
  exact⟨k+1024,by omega,(Vb k x y).2 h2⟩
 by_cases c3:0 ≤ -x∧0 < -y
 ·obtain⟨k,h1,h2⟩:=Ha c3.1 c3.2
  exact⟨k+1024+1024,by omega,(Vb _ x y).2 ((Vb k (-y) x).2 h2)⟩
 ·obtain⟨k,h1,h2⟩:=Ha (x:=y) (y:=-x) (by omega) (by omega)
  exact⟨k+1024+1024+1024,by omega,(Vb _ x y).2 ((Vb _ (-y) x).2 ((Vb k (-x) (-y)).2 (by rw[fN];exact h2)))⟩
def W5 (x y:Int):Nat:=((List.range 4096).find? (fun k=>decide (Sec k x y))).getD 0
theorem B1 {x y:Int} (h:¬ (x=0∧y=0)):W5 x y<4096∧Sec (W5 x y) x y:=by
 obtain⟨k,h1,h2⟩:=Eo h
 unfold W5
 cases hf:(List.range 4096).find? (fun k=>decide (Sec k x y)) with
 | none =>
  rw[List.find?_eq_none] at hf
  exact absurd (decide_eq_true h2) (hf k (dU.2 h1))
 | some l =>
  have a:=List.find?_some hf
  have b:=List.mem_of_find?_eq_some hf
  exact⟨dU.1 b,of_decide_eq_true a⟩
theorem Ep {k:Nat} {x y:Int} (hk:k<4096) (h:Sec k x y):W5 x y=k:=by
 have h0:¬ (x=0∧y=0):=by
  rintro⟨rfl,rfl⟩
  have:=h.2.2
  simp at this
 exact PC (B1 h0).1 hk (B1 h0).2 h
end Go.Sky
end
section
namespace Go.Sky
open Go Go.Eng
theorem PD {n:Nat} (h:n<4096):floatToIntVal .f64 (Rt n) .i64=some (Gw n):=by
 refine I9 ?_
 by_cases c1:n<1024
 ·exact Zah n (by omega) (by omega)
 by_cases c2:n<2048
 ·exact Zai n (by omega) (by omega)
 by_cases c3:n<3072
 ·exact Zaj n (by omega) (by omega)
 ·exact Zak n (by omega) (by omega)
theorem PE {x:Nat} {k:IntKind} {t:Int} (h:floatToIntVal .f64 x k=some t):f2i x=t:=by
 unfold floatToIntVal at h
 unfold f2i
 split at h
 ·rename_i n hn
  split at h
  ·cases h;rw[hn];rfl
  ·cases h
 ·cases h
theorem PG (h:Int):h.tmod 4096=if 0≤h then h%4096 else -(-h%4096):=by
 split
 ·rename_i h0;exact bZ h0
 ·rename_i h0
  have:=Int.neg_tmod (-h) 4096
  rw[fN] at this
  rw[this,bZ (by omega)]
theorem GW (h:Int):Yj h=h%4096:=by
 unfold Yj
 have a:=PG h
 have b:-4096<h.tmod 4096∧h.tmod 4096<4096:=by rw[a];split <;> omega
 rw[Zu (by omega),bZ (by omega),a]
 split <;> omega
theorem Yl {h r:Int} (hr:Yj h=r):0≤r∧r<4096:=by rw[GW] at hr;omega
theorem He {h r:Int} (hr:Yj h=r):Po 12 (dbl r):=P1 12 (by have:=Yl hr;omega) (Yl hr).1
theorem Es (x y:Nat):fdiv x y<18446744073709551616:=by
 unfold fdiv
 cases h:FloatKind.f64.format.div x y with
 | none=>decide
 | some r=>exact FloatKind.f64.format.div_lt h
theorem Et {zz:Nat} [h:Bd 40 zz]:Bd 400 (En zz):=by unfold En Ek;exact Q1
theorem Eu {z zz:Nat} [h:Bd 20 z] [h2:Bd 40 zz]:Bd 400 (Em z zz):=by unfold Em Ek;exact Q1
theorem CM {j:Int} {z:Nat} [h:Bd 20 z]:Bd 400 (WV j z):=by
 unfold WV
 have i_:Bd 40 (Zf z z):=Q1
 cases (j==1||j==2)
 ·exact Eu
 ·exact Et
theorem Ew {x:Nat} [h:Po 14 x]:Po 17 (Bi x):=by
 unfold Bi
 have i_:=Ny (x:=x)
 have j_:Po 16 (dbl (Bh x)):=i_
 cases Ro x
 ·exact P6 i_
 ·exact(Ns:Po 17 (Zn (dbl (Bh x)) 4607182418800017408))
theorem Ey {x:Nat} [h:Po 14 x]:Bd 400 (H6 x):=by
 have i_:=Ew (x:=x)
 have z_:Bd 20 (Bj x):=by unfold Bj;exact Q1
 unfold H6
 cases feq x 0
 ·cases decide (Nx x>3)
  ·exact CM
  ·have q_:Bd 400 (WV (Z0 (Nx x-4)) (Bj x)):=CM
   exact bdN
 ·exact(Q1:Bd 400 x)
theorem PH {h r:Int} (hr:Yj h=r):Po 14 (fdiv (Zf (dbl r) 4614256656552045848) 4656722014701092864):=by
 have i_:=He hr
 exact Ns
theorem RA {h r1:Int} {r2:Nat} (h1:Yj h=r1) (h2:VC (fdiv (Zf (dbl r1) 4614256656552045848) 4656722014701092864)=r2):Bd 400 r2:=by
 subst h2
 have i_:=PH h1
 exact Ey
theorem IC {h r1:Int} {r2 r3:Nat} (h1:Yj h=r1) (h2:VC (fdiv (Zf (dbl r1) 4614256656552045848) 4656722014701092864)=r2) (h3:J5 (Zf 4670232813583204352 r2)=r3):floatToIntVal .f64 r3 .i64=some (f2i r3):=by
 have n:=Yl h1
 have t:=PD (n:=r1.toNat) (by omega)
 have e:Rt r1.toNat=r3:=by
  unfold Rt I4
  rw[bN n.1,h2,h3]
 rw[e] at t
 rw[t,PE t]
end Go.Sky
end
section
namespace Go.Sky
open Go Go.Eng Go.Proofs
def Jv (h_:Int):Int :=
 let r1:=Yj h_
 let r2:=VC (fdiv (Zf (dbl r1) 4614256656552045848) 4656722014701092864)
 let r3:=J5 (Zf 4670232813583204352 r2)
 f2i r3
theorem G4 (h_:Int) (w:World) (hT:W4 w):Calls Tryz.prog 102 #[.int .i64 h_] w (Ret w (.int .i64 (Jv h_))):=by
 exact Zo (vs:=[.i h_]) (w:=w) Tryz.func102 rfl Tryz.ntmps102 rfl (Ze (Zc 1 [] [(2,.i 0)] {} (Zv (Zc 1 [] [(3,.i h_)] {} (TL.c 4 (Yj h_) (fun r1=>.i r1) (fun w _=>K7 h_ w) {} (fun r1 hr1=>Zc 3 [] [(5,.fl (dbl r1))] {} (TL.v (sV (binOp .mul 130 (.fl (dbl r1)) (.fl 4614256656552045848))) 6 (.fl (Zf (dbl r1) 4614256656552045848)) (fun w hM=>Y6 (by (try have i_:=He hr1);(try have b_:=RA hr1 hr2);exact fmS)) {} (TL.v (sV (binOp .quo 130 (.fl (Zf (dbl r1) 4614256656552045848)) (.fl 4656722014701092864))) 7 (.fl (fdiv (Zf (dbl r1) 4614256656552045848) 4656722014701092864)) (fun w hM=>UM (by (try have i_:=He hr1);(try have b_:=RA hr1 hr2);exact fdS)) {} (TL.c 8 (VC (fdiv (Zf (dbl r1) 4614256656552045848) 4656722014701092864)) (fun r2=>.fl r2) (fun w hM=>Rr (fdiv (Zf (dbl r1) 4614256656552045848) 4656722014701092864) w (PH hr1) (Es _ _) (hT.sat hM)) {} (fun r2 hr2=>TL.v (sV (binOp .mul 130 (.fl 4670232813583204352) (.fl r2))) 9 (.fl (Zf 4670232813583204352 r2)) (fun w hM=>Y6 (by (try have i_:=He hr1);(try have b_:=RA hr1 hr2);exact fmS)) {} (TL.c 10 (J5 (Zf 4670232813583204352 r2)) (fun r3=>.fl r3) (fun w _=>Nz (Zf 4670232813583204352 r2) w) {} (fun r3 hr3=>TL.v (sV (convert 130 3 (.fl r3))) 11 (.i (f2i r3)) (fun w hM=>Nj Kr Kr (IC hr1 hr2 hr3)) {} (Zc 10 [] [(2,.i (f2i r3))] {} (Zb rfl (TC.ret (TE.ret [] (.i (f2i r3)) {} (by unfold Jv;refine eS (fun z=>(.i z:Value)) ?_;subst hr1 hr2 hr3;exact rfl)))))))))))))))))
def JW (h_:Int):Int :=
 let r1:=Yj h_
 let r2:=Jv (w64 (r1+1024))
 r2
theorem N1 (h:Int):Jv h=Gw (h%4096).toNat:=by
 unfold Jv
 simp only
 have n:=Yl (h:=h) rfl
 have t:=PD (n:=(Yj h).toNat) (by omega)
 have e:Rt (Yj h).toNat=J5 (Zf 4670232813583204352 (VC (fdiv (Zf (dbl (Yj h)) 4614256656552045848) 4656722014701092864))):=by
  unfold Rt I4
  rw[bN n.1]
 rw[e] at t
 rw[PE t,GW]
theorem N2 (k:Nat):Jv (k:Int)=sn k:=by rw[N1,show ((k:Int)%4096).toNat=k%4096 by omega];rfl
theorem HV (h_:Int) (w:World) (hT:W4 w):Calls Tryz.prog 103 #[.int .i64 h_] w (Ret w (.int .i64 (JW h_))):=by
 exact Zo (vs:=[.i h_]) (w:=w) Tryz.func103 rfl Tryz.ntmps103 rfl (Ze (Zc 1 [] [(2,.i 0)] {} (Zv (Zc 1 [] [(3,.i h_)] {} (TL.c 4 (Yj h_) (fun r1=>.i r1) (fun w _=>K7 h_ w) {} (fun r1 hr1=>Zc 3 [] [(5,.i (w64 (r1+1024)))] {} (TL.c 6 (Jv (w64 (r1+1024))) (fun r2=>.i r2) (fun w hM=>G4 (w64 (r1+1024)) w (hT.sat hM)) {} (fun r2 hr2=>Zc 5 [] [(2,.i r2)] {} (Zb rfl (TC.ret (TE.ret [] (.i r2) {} (by unfold JW;refine eS (fun z=>(.i z:Value)) ?_;subst hr1 hr2;exact rfl))))))))))))
def ZA (h_:Int):P :=
 let r1:=Jv h_
 let r2:=JW h_
 (⟨r1,r2⟩:P)
theorem N3 (k:Nat):JW (k:Int)=cs k:=by
 unfold JW
 simp only
 rw[GW,N1,Zu (by omega),show (((k:Int)%4096+1024)%4096).toNat=(k+1024)%4096 by omega];rfl
theorem VM (h_:Int) (w:World) (hT:W4 w):Calls Tryz.prog 61 #[.int .i64 h_] w (Ret w (P.v (ZA h_))):=by
 exact Zo (vs:=[.i h_]) (w:=w) Tryz.func61 rfl Tryz.ntmps61 rfl (Ze (ZH 2 (fun b1=>.p0 b1) (fun b1=>Bk b1 (P.c P.zero) 32) (fun b1=>{}) (fun b1=>Zv (Zc 1 [] [(3,.i h_)] {} (TL.c 4 (Jv h_) (fun r1=>.i r1) (fun w hM=>G4 h_ w (hT.sat hM)) {} (fun r1 hr1=>Zc 3 [] [(5,.i h_)] {} (TL.c 6 (JW h_) (fun r2=>.i r2) (fun w hM=>HV h_ w (hT.sat hM)) {} (fun r2 hr2=>Zc 5 [] [(7,P.v (⟨r1,r2⟩:P))] {} (Ym 0 (Bk b1 (P.c (⟨r1,r2⟩:P)) 32) (fun _=>{}) (Zb rfl (TC.ret (TE.ret [0] (P.v (⟨r1,r2⟩:P)) {} (by unfold ZA;refine eS (fun z=>(P.v z:Value)) ?_;subst hr1 hr2;exact rfl)))))))))))))
def ZO (a:P) (b_:P):Int :=
 w64 ((w64 (a.Y*b_.X))-(w64 (a.X*b_.Y)))
theorem V1 (a:P) (b_:P) (w:World):Calls Tryz.prog 62 #[P.v a,P.v b_] w (Ret w (.int .i64 (ZO a b_))):=by
 exact Zo (vs:=[P.v a,P.v b_]) (w:=w) Tryz.func62 rfl Tryz.ntmps62 rfl (Ze (ZH 2 (fun b1=>.p0 b1) (fun b1=>Bk b1 (P.c a) 32) (fun b1=>{}) (fun b1=>ZH 3 (fun b2=>.p0 b2) (fun b2=>Bk b2 (P.c b_) 32) (fun b2=>{}) (fun b2=>Zc 3 [] [(4,.i 0)] {} (Zv (Zc 12 [1,0,1,0] [(4,.i (w64 ((w64 (a.Y*b_.X))-(w64 (a.X*b_.Y)))))] {} (Zb rfl (TC.ret (TE.ret [] (.i (w64 ((w64 (a.Y*b_.X))-(w64 (a.X*b_.Y))))) {} (by unfold ZO;refine eS (fun z=>(.i z:Value)) ?_;exact rfl))))))))))
def Qf (n:Int):Int:=if n<0 then -((-n+8192)/16384) else (n+8192)/16384
theorem V2 {n:Int} (hb:-4611686018427387904≤n∧n≤4611686018427387904):-4611686018427387904≤Qf n∧Qf n≤4611686018427387904:=by
 unfold Qf;split <;> omega
theorem Le {n r:Int} (h:n<0) (hr:r=Qf (0-n)):0-r=Qf n:=by
 rw[hr];unfold Qf
 rw[if_neg (by omega),if_pos h,show 0-n=-n by omega];omega
theorem PI {n:Int} (h:¬ n<0):(n+8192)/16384=Qf n:=by unfold Qf;rw[if_neg h]
theorem Lh {n d:Int} (hd:d=16384) (h:¬ n<0) (hb:-4611686018427387904≤n∧n≤4611686018427387904):w64 ((n+d/2).tdiv d)=Qf n:=by
 subst hd
 rw[show (16384:Int)/2=8192 from rfl,dC (by omega),Zu (by omega)]
 exact PI h
theorem Hf:∀ (fu_:Nat) (n:Int) (d:Int) (w:World) (_hM:Sat ⟨w,XS []⟩ [] w) (_hd:d=16384) (_hb:-4611686018427387904≤n∧n≤4611686018427387904) (_hn:(0-n).toNat<fu_),Calls Tryz.prog 110 #[.int .i64 n,.int .i64 d] w (JD (Γ:=Int) ⟨w,XS []⟩ (fun g=>.int .i64 g) (fun g=>[.inr (XG (g=Qf n))]))
 | 0,_,_,_,_,_,_,hn=>absurd hn (cF _)
 | fu_+1,n,d,w,hM,hd,hb,hn=>by
  have ih:=Hf fu_
  refine YW (w0:=⟨w,XS []⟩) (vs:=[.i n,.i d]) hM Tryz.func110 rfl Tryz.ntmps110 rfl (J2 [(0,.i n),(1,.i d)] Kr (Ze (TL.run 1 [] [(0,.i n),(1,.i d)] rfl {} (Zz (Ze (TL.run 2 [] [(0,.i n),(1,.i d),(6,.b (decide (n<0)))] rfl {} (Zb rfl (TC.cond (decide (n<0)) rfl Kr (fun h1=>?_) (fun h1=>?_)))))))))
  ·refine Ze (TL.run 3 [] [(8,.i (w64 (0-n))),(9,.i d)] rfl {} (TL.rw 8 (.i (w64 (0-n))) (.i (0-n)) Kr (int_eq (by have q0_:=(Ys h1);have nb_:=V2 (n:=0-n) (by omega);rw[Zu (x:=(0-n)) (by omega)])) (Xx (Γ:=Int) (fun g=>.i g) (fun g=>[.inr (XG (g=Qf (0-n)))]) [] [] (some 10) (fun g=>[(10,.i g)]) (fun w hM=>ih (0-n) d w hM.pass (by have q0_:=(Ys h1);have nb_:=V2 (n:=0-n) (by omega);exact sg) (by have q0_:=(Ys h1);have nb_:=V2 (n:=0-n) (by omega);exact sg) (by have q0_:=(Ys h1);have nb_:=V2 (n:=0-n) (by omega);exact sg)) Kr (fun g=>Kr) ?_)))
   rintro r_
   exact YS [.inr (XG (r_=Qf (0-n)))] (fun _ hM=>hM) (Y2 (fun w hM=>hM.fact_at 0 rfl) (fun jb=>YK [] (.cons _ (aA _)) (TL.run 6 [] [(4,.i (w64 (0-r_)))] rfl {} (TL.rw 4 (.i (w64 (0-r_))) (.i (0-r_)) Kr (int_eq (by have q0_:=(Ys h1);have nb_:=V2 (n:=0-n) (by omega);rw[Zu (x:=(0-r_)) (by omega)])) (Zb rfl (TC.ret (Zq (ZN (.inl rfl) (0-r_) [] (.i (0-r_)) {} rfl (fun _ hM=>(hM.sub (sb 0)).fact (by have q0_:=(Ys h1);have nb_:=V2 (n:=0-n) (by omega);(try dsimp only);first|exact Le (by omega) jb|exact Lh hd (by omega) hb))))))))))
  ·exact ZI (TL.run 5 [] [(15,.i (w64 (n+(w64 (d.tdiv 2))))),(16,.i d)] rfl {} (TL.rw 15 (.i (w64 (n+(w64 (d.tdiv 2))))) (.i (n+(((d/2))))) Kr (int_eq (by have q0_:=(Zt h1);have nb_:=V2 (n:=0-n) (by omega);rw[WQ (a:=d) 2 (by omega),Zu (x:=((d/2))) (by omega),Zu (x:=(n+(((d/2))))) (by omega)])) (ZW (sV (binOp .quo 3 (.i (n+(((d/2))))) (.i d))) (some 17) (.i (w64 ((n+(((d/2)))).tdiv d))) [(17,.i (w64 ((n+(((d/2)))).tdiv d)))] (fun w hM=>C4 (by have q0_:=(Zt h1);have nb_:=V2 (n:=0-n) (by omega);exact sd)) Kr Kr (TL.run 7 [] [(4,.i (w64 ((n+(((d/2)))).tdiv d)))] rfl {} (TL.rw 4 (.i (w64 ((n+(((d/2)))).tdiv d))) (.i (w64 ((n+(((d/2)))).tdiv d))) Kr (int_eq (by have q0_:=(Zt h1);have nb_:=V2 (n:=0-n) (by omega);rw[])) (Zb rfl (TC.ret (ZN (.inl rfl) (w64 ((n+(((d/2)))).tdiv d)) [] (.i (w64 ((n+(((d/2)))).tdiv d))) {} rfl (fun _ hM=>(hM.sub (sb 0)).fact (by have q0_:=(Zt h1);have nb_:=V2 (n:=0-n) (by omega);(try dsimp only);first|exact Le (by omega) jb|exact Lh hd (by omega) hb))))))))))
theorem Hg (n:Int) (d:Int) (w:World) (hM:Sat ⟨w,XS []⟩ [] w) (hd:d=16384) (hb:-4611686018427387904≤n∧n≤4611686018427387904):Calls Tryz.prog 110 #[.int .i64 n,.int .i64 d] w (JD (Γ:=Int) ⟨w,XS []⟩ (fun g=>.int .i64 g) (fun g=>[.inr (XG (g=Qf n))])):=Hf ((0-n).toNat+1) n d w hM hd hb (cT _)
end Go.Sky
end
section
namespace Go.Sky
open Go Go.Eng Go.Proofs
def Vt (x:Nat):Nat :=
 UZ x
theorem N4 (x:Nat) (w:World) (hx:Bd 60 x):Calls Tryz.prog 58 #[.fl x] w (Ret w (.fl (Vt x))):=by
 exact Zo (vs:=[.fl x]) (w:=w) Tryz.func58 rfl Tryz.ntmps58 rfl (Ze (Zc 1 [] [(2,.fl 0)] {} (Zz (Xo rfl Kr (Ze (Zc 1 [] [(3,.fl x)] {} (TL.v (callFunc 98 #[.fl x]) 4 (.fl (UZ x)) (fun w hM=>Rl Tryz.func98 Kr Kr Kr Kr (by exact Zag)) {} (Zc 3 [] [(2,.fl (UZ x))] {} (Zb rfl (TC.ret (Zq (TE.ret [] (.fl (UZ x)) {} (by unfold Vt;refine eS (fun z=>(.fl z:Value)) ?_;exact rfl)))))))))))))
end Go.Sky
end
section
namespace Go.Sky
open Go Go.Eng
abbrev pQ6 (a:Nat):Nat:=fdiv (Zf a 4656722014701092864) 4614256656552045848
theorem Lj {e x r:Nat} [h:Bd e x] (hr:Vt x=r):Bd (e+1) r:=by subst hr;exact bdF
theorem PK {q r:Nat} {g:Int} (_h:Bd 46 q) (h1:Vt (pQ6 q)=r) (h2:f2i r=g):-1152921504606846976≤g∧g≤1152921504606846976:=by
 have i_:=Lj h1
 have j_:Bd 60 r:=Q1
 obtain⟨s,a,h3,_,h5⟩:=P2 (x:=r) (e:=60) (by decide)
 have:(2:Nat) ^ 60=1152921504606846976:=rfl
 rw[← h2,h5]
 split <;> omega
def ofF (v:P):Int×Int :=
 if v.X < -2000000∨2000000<v.X∨v.Y < -2000000∨2000000<v.Y then (0,4)
 else if v.X=0∧v.Y=0 then (0,10)
 else (if cs (W5 v.X v.Y)*v.X-sn (W5 v.X v.Y)*v.Y≤v.Y*sn (W5 v.X v.Y+1)-v.X*cs (W5 v.X v.Y+1) then (W5 v.X v.Y:Int) else ((W5 v.X v.Y+1)%4096:Nat),0)
theorem Q5 {v:P} (h:((v.X==0)&&(v.Y==0))=false):¬ (v.X=0∧v.Y=0):=by
 rintro⟨h1,h2⟩
 rw[h1,h2] at h;cases h
def Un (v:P):Prop:=-2000000≤v.X∧v.X≤2000000 ∧ -2000000≤v.Y∧v.Y≤2000000
theorem X6 {v:P} (h:((((decide (v.X<(-2000000)))||(decide (v.X>2000000)))||(decide (v.Y<(-2000000))))||(decide (v.Y>2000000)))=false):Un v:=by
 simp only[bR,decide_eq_false_iff_not] at h
 unfold Un;omega
theorem W6 {v:P} (h:v.X < -2000000∨2000000<v.X∨v.Y < -2000000∨2000000<v.Y):0=(ofF v).1∧4=(ofF v).2:=by unfold ofF;rw[if_pos h];exact⟨rfl,rfl⟩
theorem U0 {v:P} (h:Un v) (h0:v.X=0∧v.Y=0):0=(ofF v).1∧10=(ofF v).2:=by
 obtain⟨a1,a2,a3,a4⟩:=h
 unfold ofF;rw[if_neg (by omega),if_pos h0];exact⟨rfl,rfl⟩
theorem Ud {a b:Int} (ha:-16384≤a∧a≤16384) (hb:-2000000≤b∧b≤2000000):-32768000000≤a*b∧a*b≤32768000000:=by
 have h:(a*b).natAbs≤16384*2000000:=by rw[Int.natAbs_mul];exact Nat.mul_le_mul (by omega) (by omega)
 omega
theorem Ll {h:Int} (hh:0≤h):ZA h=⟨sn h.toNat,cs h.toNat⟩∧ZA (h+1)=⟨sn (h.toNat+1),cs (h.toNat+1)⟩:=by
 obtain⟨k,rfl⟩:∃ k:Nat,h=k:=⟨h.toNat,by omega⟩
 unfold ZA
 simp only
 rw[show (k:Int)+1=((k+1:Nat):Int) by omega,N2,N3,N2,N3,aP]
 exact⟨rfl,rfl⟩
theorem F8 {v:P} {h:Int} (hv:Un v) (hh:0≤h∧h<4096):ZO (ZA h) v=cs h.toNat*v.X-sn h.toNat*v.Y∧ZO v (ZA (h+1))=v.Y*sn (h.toNat+1)-v.X*cs (h.toNat+1) ∧
  w64 ((w64 ((ZA h).X*v.X))+(w64 ((ZA h).Y*v.Y)))=sn h.toNat*v.X+cs h.toNat*v.Y:=by
 unfold Un at hv
 rw[(Ll hh.1).1,(Ll hh.1).2]
 unfold ZO
 have a1:=Ud (F7 h.toNat) ⟨hv.1,hv.2.1⟩
 have a2:=Ud (F6 h.toNat) ⟨hv.1,hv.2.1⟩
 have a3:=Ud (F7 h.toNat) hv.2.2
 have a4:=Ud (F6 h.toNat) hv.2.2
 have a5:=Ud (F7 (h.toNat+1)) ⟨hv.1,hv.2.1⟩
 have a6:=Ud (F6 (h.toNat+1)) hv.2.2
 rw[dX _ v.X] at a5
 rw[dX _ v.Y] at a6
 simp only
 refine⟨?_,?_,?_⟩
 ·rw[Zu (x:=cs h.toNat*v.X) (by omega),Zu (x:=sn h.toNat*v.Y) (by omega),Zu (by omega)]
 ·rw[Zu (x:=v.Y*sn (h.toNat+1)) (by omega),Zu (x:=v.X*cs (h.toNat+1)) (by omega),Zu (by omega)]
 ·rw[Zu (x:=sn h.toNat*v.X) (by omega),Zu (x:=cs h.toNat*v.Y) (by omega),Zu (by omega)]
theorem CN {v:P} {h:Int} (hv:Un v) (hh:0≤h∧h<4096):(((decide (ZO (ZA h) v≥0))&&(decide (ZO v (ZA (h+1))>0)))&&(decide ((w64 ((w64 ((ZA h).X*v.X))+(w64 ((ZA h).Y*v.Y))))>0)))=true↔Sec h.toNat v.X v.Y:=by
 obtain⟨e1,e2,e3⟩:=F8 hv hh
 rw[e1,e2,e3,aW,aW,decide_eq_true_eq,decide_eq_true_eq,decide_eq_true_eq]
 unfold Sec
 exact and_assoc
theorem PL {v:P} {h:Int} (hv:Un v) (h0:¬ (v.X=0∧v.Y=0)) (hh:0≤h∧h<4096) (c:(((decide (ZO (ZA h) v≥0))&&(decide (ZO v (ZA (h+1))>0)))&&(decide ((w64 ((w64 ((ZA h).X*v.X))+(w64 ((ZA h).Y*v.Y))))>0)))=true) :
  ofF v=(if ZO (ZA h) v≤ZO v (ZA (h+1)) then h else Yj (h+1),0):=by
 have hs:=Ep (by omega) ((CN hv hh).1 c)
 obtain⟨e1,e2,_⟩:=F8 hv hh
 unfold Un at hv
 unfold ofF
 rw[if_neg (by omega),if_neg h0,hs,e1,e2,GW]
 generalize cs h.toNat*v.X-sn h.toNat*v.Y=a
 generalize v.Y*sn (h.toNat+1)-v.X*cs (h.toNat+1)=b
 by_cases d:a≤b
 ·rw[if_pos d,if_pos d,bN hh.1]
 ·rw[if_neg d,if_neg d,show (((h.toNat+1)%4096:Nat):Int)=(h+1)%4096 by omega]
theorem Zal {v:P} {h:Int} (hv:Un v) (h0:¬ (v.X=0∧v.Y=0)) (hh:0≤h∧h<4096) (c:(((decide (ZO (ZA h) v≥0))&&(decide (ZO v (ZA (h+1))>0)))&&(decide ((w64 ((w64 ((ZA h).X*v.X))+(w64 ((ZA h).Y*v.Y))))>0)))=true)
  (d:decide (ZO (ZA h) v≤ZO v (ZA (h+1)))=true):h=(ofF v).1∧0=(ofF v).2:=by
 rw[PL hv h0 hh c,if_pos (of_decide_eq_true d)];exact⟨rfl,rfl⟩
theorem Zam {v:P} {h:Int} (hv:Un v) (h0:¬ (v.X=0∧v.Y=0)) (hh:0≤h∧h<4096) (c:(((decide (ZO (ZA h) v≥0))&&(decide (ZO v (ZA (h+1))>0)))&&(decide ((w64 ((w64 ((ZA h).X*v.X))+(w64 ((ZA h).Y*v.Y))))>0)))=true)
  (d:decide (ZO (ZA h) v≤ZO v (ZA (h+1)))=false):Yj (h+1)=(ofF v).1∧0=(ofF v).2:=by
 rw[PL hv h0 hh c,if_neg (of_decide_eq_false d)];exact⟨rfl,rfl⟩
def DT (g:Int) (j:Nat):Nat:=((if j%2=1 then g-j else g+j)%4096).toNat
def U1 (v:P) (g s:Int):Prop:=(0≤s∧s≤4096)∧∀ j:Nat,(j:Int)<s→¬ Sec (DT g j) v.X v.Y
theorem CO {v:P} {g s h:Int} (hv:Un v) (hi:U1 v g s) (hs:s<4096) (hh:(DT g s.toNat:Int)=h) (c:(((decide (ZO (ZA h) v≥0))&&(decide (ZO v (ZA (h+1))>0)))&&(decide ((w64 ((w64 ((ZA h).X*v.X))+(w64 ((ZA h).Y*v.Y))))>0)))=false) :
  U1 v g (s+1):=by
 unfold U1 at hi ⊢
 refine⟨by omega,fun j hj=>?_⟩
 by_cases hjs:(j:Int)<s
 ·exact hi.2 j hjs
 ·intro hx
  have e:s.toNat=j:=by omega
  rw[e] at hh
  have l:DT g j<4096:=by unfold DT;omega
  rw[(CN hv (by omega)).2 (by rw[← hh,aP];exact hx)] at c
  cases c
theorem IE {v:P} {g s:Int} (hv:Un v) (hi:U1 v g s) (hs:s<4096) (ho:(s.tmod 2==1)=true) (c:(((decide (ZO (ZA (Yj (g-s))) v≥0))&&(decide (ZO v (ZA (Yj (g-s)+1))>0)))&&(decide ((w64 ((w64 ((ZA (Yj (g-s))).X*v.X))+(w64 ((ZA (Yj (g-s))).Y*v.Y))))>0)))=false) :
  U1 v g (s+1):=by
 have o:=beq_iff_eq.1 ho
 rw[bZ hi.1.1] at o
 have:=hi.1.1
 refine CO hv hi hs ?_ c
 rw[GW];unfold DT
 rw[if_pos (by omega)];omega
theorem IF {v:P} {g s:Int} (hv:Un v) (hi:U1 v g s) (hs:s<4096) (ho:(s.tmod 2==1)=false) (c:(((decide (ZO (ZA (Yj (g+s))) v≥0))&&(decide (ZO v (ZA (Yj (g+s)+1))>0)))&&(decide ((w64 ((w64 ((ZA (Yj (g+s))).X*v.X))+(w64 ((ZA (Yj (g+s))).Y*v.Y))))>0)))=false) :
  U1 v g (s+1):=by
 have o:=beq_eq_false_iff_ne.1 ho
 rw[bZ hi.1.1] at o
 have:=hi.1.1
 refine CO hv hi hs ?_ c
 rw[GW];unfold DT
 rw[if_neg (by omega)];omega
theorem U2 {v u w:P} {g h a b:Int} (hv:Un v) (h0:¬ (v.X=0∧v.Y=0)) (hn:Yj g=h) (hu:ZA h=u) (hw:ZA (h+1)=w) (ha:ZO u v=a) (hb:ZO v w=b) (c:(((decide (a≥0))&&(decide (b>0)))&&(decide ((w64 ((w64 (u.X*v.X))+(w64 (u.Y*v.Y))))>0)))=true) (d:decide (a≤b)=true):h=(ofF v).1∧0=(ofF v).2:=by
 subst hu hw ha hb;exact Zal hv h0 (Yl hn) c d
theorem U3 {v u w:P} {g h a b r:Int} (hv:Un v) (h0:¬ (v.X=0∧v.Y=0)) (hn:Yj g=h) (hu:ZA h=u) (hw:ZA (h+1)=w) (ha:ZO u v=a) (hb:ZO v w=b) (c:(((decide (a≥0))&&(decide (b>0)))&&(decide ((w64 ((w64 (u.X*v.X))+(w64 (u.Y*v.Y))))>0)))=true) (d:decide (a≤b)=false) (hr:Yj (h+1)=r):r=(ofF v).1∧0=(ofF v).2:=by
 subst hu hw ha hb hr;exact Zam hv h0 (Yl hn) c d
theorem EZ {v u w:P} {g s h a b:Int} (hv:Un v) (hi:U1 v g s) (hs:s<4096) (ho:(s.tmod 2==1)=true) (hn:Yj (g-s)=h) (hu:ZA h=u) (hw:ZA (h+1)=w) (ha:ZO u v=a) (hb:ZO v w=b) (c:(((decide (a≥0))&&(decide (b>0)))&&(decide ((w64 ((w64 (u.X*v.X))+(w64 (u.Y*v.Y))))>0)))=false):U1 v g (s+1):=by
 subst hn;subst hu hw ha hb;exact IE hv hi hs ho c
theorem Ia {v u w:P} {g s h a b:Int} (hv:Un v) (hi:U1 v g s) (hs:s<4096) (ho:(s.tmod 2==1)=false) (hn:Yj (g+s)=h) (hu:ZA h=u) (hw:ZA (h+1)=w) (ha:ZO u v=a) (hb:ZO v w=b) (c:(((decide (a≥0))&&(decide (b>0)))&&(decide ((w64 ((w64 (u.X*v.X))+(w64 (u.Y*v.Y))))>0)))=false):U1 v g (s+1):=by
 subst hn;subst hu hw ha hb;exact IF hv hi hs ho c
theorem PM (v:P) (g:Int):U1 v g 0:=⟨by omega,fun j hj=>by omega⟩
theorem IG {v:P} {g s:Int} (h0:¬ (v.X=0∧v.Y=0)) (hi:U1 v g s) (hs:¬ s<4096):False:=by
 obtain⟨h1,h2⟩:=B1 h0
 generalize W5 v.X v.Y=K at *
 obtain⟨e,he⟩:∃ e:Nat,((K:Int)-g)%4096=e:=⟨(((K:Int)-g)%4096).toNat,by omega⟩
 by_cases ho:e%2=1
 ·refine hi.2 (4096-e) (by omega) ?_
  have:DT g (4096-e)=K:=by unfold DT;rw[if_pos (by omega)];omega
  rw[this];exact h2
 ·refine hi.2 e (by omega) ?_
  have:DT g e=K:=by unfold DT;rw[if_neg ho];omega
  rw[this];exact h2
end Go.Sky
end
section
namespace Go.Sky
open Go Go.Eng Go.Proofs
set_option maxHeartbeats 4000000 in
theorem RB (v:P) (w:World) (hM:Sat ⟨w,XS []⟩ [] w) (hT:W4 w):Calls Tryz.prog 25 #[P.v v] w (JD (Γ:=Int×Int) ⟨w,XS []⟩ (fun g=>.tuple #[.int .i64 g.1,.int .i64 g.2]) (fun g=>[.inr (XG (g.1=(ofF v).1∧g.2=(ofF v).2))])):=by
 refine YW (w0:=⟨w,XS []⟩) (vs:=[P.v v]) hM Tryz.func25 rfl Tryz.ntmps25 rfl (J2 [(0,P.v v)] Kr (Ze (K4 0 (fun b1=>[(1,.p0 b1)]) (fun b1=>[Bk b1 (P.c v) 32]) (fun b1=>{}) (fun b1=>TL.run 3 [] [(1,.p0 b1)] rfl {} (Zz (TC.block (Ze (TL.run 4 [0] [(1,.p0 b1),(15,.b (decide (v.X<(-2000000))))] rfl {} (VR 15 (decide (v.X<(-2000000))) 8 [] [0] (fun β=>[(1,.p0 b1),(19,.b (β||(decide (v.X>2000000))))]) Kr rfl {} {} (TL.run 9 [] [(1,.p0 b1),(20,.b ((decide (v.X<(-2000000)))||(decide (v.X>2000000))))] rfl {} (VR 20 ((decide (v.X<(-2000000)))||(decide (v.X>2000000))) 13 [] [0] (fun β=>[(1,.p0 b1),(24,.b (β||(decide (v.Y<(-2000000)))))]) Kr rfl {} {} (TL.run 14 [] [(1,.p0 b1),(25,.b (((decide (v.X<(-2000000)))||(decide (v.X>2000000)))||(decide (v.Y<(-2000000)))))] rfl {} (VR 25 (((decide (v.X<(-2000000)))||(decide (v.X>2000000)))||(decide (v.Y<(-2000000)))) 18 [] [0] (fun β=>[(1,.p0 b1),(29,.b (β||(decide (v.Y>2000000))))]) Kr rfl {} {} (TL.run 19 [] [(1,.p0 b1),(11,.b ((((decide (v.X<(-2000000)))||(decide (v.X>2000000)))||(decide (v.Y<(-2000000))))||(decide (v.Y>2000000))))] rfl {} (Zb rfl (TC.cond ((((decide (v.X<(-2000000)))||(decide (v.X>2000000)))||(decide (v.Y<(-2000000))))||(decide (v.Y>2000000))) rfl Kr (fun h1=>?_) (fun h1=>?_)))))))))))))))))
 ·refine Ze (TL.run 2 [] [(2,.i 0),(3,.i 4)] rfl {} (Zb rfl (TC.ret (ZY (Zq ?_)))))
  exact ZN (.inl rfl) (0,4) [] (.tuple #[.i 0,.i 4]) {} rfl (fun _ hM=>(hM.sub (sb 0)).fact (by have q0_:=((UV h1).imp (fun h=>((UV h).imp (fun h=>((UV h).imp (fun h=>(Ys h)) (fun h=>(Ys h)))) (fun h=>(Ys h)))) (fun h=>(Ys h)));(try have bq_:=qj);(try have n3_:=Yl hr3);(try have n4_:=Yl hr4);(try dsimp only);first|exact W6 (by omega)|exact U0 (X6 h1) (by omega)|exact U3 (X6 h1) (Q5 h2) hr4 hr5 hr6 hr7 hr8 h5 h6 hr9|exact U3 (X6 h1) (Q5 h2) hr3 zl zo z8 xa h7 h8 kv|exact U2 (X6 h1) (Q5 h2) hr4 hr5 hr6 hr7 hr8 h5 h6|exact U2 (X6 h1) (Q5 h2) hr3 zl zo z8 xa h7 h8|exact False.elim ho0))
 ·refine Ze (TL.run 4 [0] [(1,.p0 b1),(34,.b (v.X==0))] rfl {} (VR 34 (v.X==0) 8 [0] [] (fun β=>[(1,.p0 b1),(38,.b (β&&(v.Y==0)))]) Kr rfl {} {} (TL.run 9 [] [(1,.p0 b1),(30,.b ((v.X==0)&&(v.Y==0)))] rfl {} (Zb rfl (TC.cond ((v.X==0)&&(v.Y==0)) rfl Kr (fun h2=>?_) (fun h2=>?_))))))
  ·refine Ze (TL.run 2 [] [(2,.i 0),(3,.i 10)] rfl {} (Zb rfl (TC.ret (ZY (Zq ?_)))))
   exact ZN (.inl rfl) (0,10) [] (.tuple #[.i 0,.i 10]) {} rfl (fun _ hM=>(hM.sub (sb 0)).fact (by have q0_:=(Zt (Zx (Zx (Zx h1))));have q1_:=(Zt (Z9 (Zx (Zx h1))));have q2_:=(Zt (Z9 (Zx h1)));have q3_:=(Zt (Z9 h1));have q4_:=(Xf (Jl h2));have q5_:=(Xf (JZ h2));(try have bq_:=qj);(try have n3_:=Yl hr3);(try have n4_:=Yl hr4);(try dsimp only);first|exact W6 (by omega)|exact U0 (X6 h1) (by omega)|exact U3 (X6 h1) (Q5 h2) hr4 hr5 hr6 hr7 hr8 h5 h6 hr9|exact U3 (X6 h1) (Q5 h2) hr3 zl zo z8 xa h7 h8 kv|exact U2 (X6 h1) (Q5 h2) hr4 hr5 hr6 hr7 hr8 h5 h6|exact U2 (X6 h1) (Q5 h2) hr3 zl zo z8 xa h7 h8|exact False.elim ho0))
  ·refine TC.skip (Yr (YZ (TL.run 6 [0,0] [(1,.p0 b1),(41,.fl (dbl v.X)),(44,.fl (dbl v.Y))] rfl {} (Xx (Γ:=Nat) (fun g=>.fl g) (fun g=>[.inr (XG (Bd 46 g))]) [] [Bk b1 (P.c v) 32] (some 45) (fun g=>[(1,.p0 b1),(45,.fl g)]) (fun w hM=>Nw (dbl v.X) (dbl v.Y) w hM.pass (by have q0_:=(Zt (Zx (Zx (Zx h1))));have q1_:=(Zt (Z9 (Zx (Zx h1))));have q2_:=(Zt (Z9 (Zx h1)));have q3_:=(Zt (Z9 h1));have q4_:=((Qq h2).imp (fun h=>(Yh h)) (fun h=>(Yh h)));(try have bq_:=qj);(try have n3_:=Yl hr3);(try have n4_:=Yl hr4);exact⟨v.X,by omega,rfl⟩) (by have q0_:=(Zt (Zx (Zx (Zx h1))));have q1_:=(Zt (Z9 (Zx (Zx h1))));have q2_:=(Zt (Z9 (Zx h1)));have q3_:=(Zt (Z9 h1));have q4_:=((Qq h2).imp (fun h=>(Yh h)) (fun h=>(Yh h)));(try have bq_:=qj);(try have n3_:=Yl hr3);(try have n4_:=Yl hr4);exact⟨v.Y,by omega,rfl⟩)) Kr (fun g=>Kr) ?_))))
   rintro r_
   refine YS [.inr (XG (Bd 46 r_)),Bk b1 (P.c v) 32] (fun _ hM=>hM) (Y2 (fun w hM=>hM.fact_at 0 rfl) (fun qj=>YK [Bk b1 (P.c v) 32] (.cons _ (aA _)) (ZW (sV (binOp .mul 130 (.fl r_) (.fl 4656722014701092864))) (some 46) (.fl (Zf r_ 4656722014701092864)) [(1,.p0 b1),(46,.fl (Zf r_ 4656722014701092864))] (fun w hM=>Y6 (by have q0_:=(Zt (Zx (Zx (Zx h1))));have q1_:=(Zt (Z9 (Zx (Zx h1))));have q2_:=(Zt (Z9 (Zx h1)));have q3_:=(Zt (Z9 h1));have q4_:=((Qq h2).imp (fun h=>(Yh h)) (fun h=>(Yh h)));(try have bq_:=qj);(try have n3_:=Yl hr3);(try have n4_:=Yl hr4);exact fmS)) Kr Kr (ZW (sV (binOp .quo 130 (.fl (Zf r_ 4656722014701092864)) (.fl 4614256656552045848))) (some 47) (.fl (pQ6 r_)) [(1,.p0 b1),(47,.fl (pQ6 r_))] (fun w hM=>UM (by have q0_:=(Zt (Zx (Zx (Zx h1))));have q1_:=(Zt (Z9 (Zx (Zx h1))));have q2_:=(Zt (Z9 (Zx h1)));have q3_:=(Zt (Z9 h1));have q4_:=((Qq h2).imp (fun h=>(Yh h)) (fun h=>(Yh h)));(try have bq_:=qj);(try have n3_:=Yl hr3);(try have n4_:=Yl hr4);exact fdS)) Kr Kr (TL.call (some 48) [(1,.p0 b1),(48,.fl (Vt (pQ6 r_)))] (fun w _=>N4 (pQ6 r_) w (by have q0_:=(Zt (Zx (Zx (Zx h1))));have q1_:=(Zt (Z9 (Zx (Zx h1))));have q2_:=(Zt (Z9 (Zx h1)));have q3_:=(Zt (Z9 h1));have q4_:=((Qq h2).imp (fun h=>(Yh h)) (fun h=>(Yh h)));(try have bq_:=qj);(try have n3_:=Yl hr3);(try have n4_:=Yl hr4);exact Q1)) Kr Kr ?_)))))
   generalize hr1:Vt (pQ6 r_)=r1
   refine ZW (sV (convert 130 3 (.fl r1))) (some 49) (.i (f2i r1)) [(1,.p0 b1),(49,.i (f2i r1))] (fun w hM=>Nj Kr Kr (by have q0_:=(Zt (Zx (Zx (Zx h1))));have q1_:=(Zt (Z9 (Zx (Zx h1))));have q2_:=(Zt (Z9 (Zx h1)));have q3_:=(Zt (Z9 h1));have q4_:=((Qq h2).imp (fun h=>(Yh h)) (fun h=>(Yh h)));(try have bq_:=qj);(try have n3_:=Yl hr3);(try have n4_:=Yl hr4);have b_:=Lj hr1;exact Ed (e:=58))) Kr Kr (TL.run 12 [] [(1,.p0 b1),(4,.i (f2i r1))] rfl {} ?_)
   generalize hr2:f2i r1=r2
   have g_:=PK qj hr1 hr2;clear hr1 hr2 qj
   refine Zz (Ze (TL.run 1 [] [(1,.p0 b1),(4,.i r2),(50,.i 0)] rfl {} (Zb rfl (J2 [(1,.p0 b1),(4,.i r2),(50,.i 0)] Kr (TC.cut (S:=Unit) (fun (_:Unit)=>[]) (fun (_:Unit)=>[Bk b1 (P.c v) 32]) (fun (_:Unit)=>(False)) ?_ ?_)))))
   ·refine TC.block (TC.loop (X:=Int) (fun s=>[(1,.p0 b1),(4,.i r2),(50,.i s)]) (fun s=>[Bk b1 (P.c v) 32]) (fun s=>(4096-s).toNat) (fun s=>(U1 v r2 s)) ?_ 0 (by have q0_:=(Zt (Zx (Zx (Zx h1))));have q1_:=(Zt (Z9 (Zx (Zx h1))));have q2_:=(Zt (Z9 (Zx h1)));have q3_:=(Zt (Z9 h1));have q4_:=((Qq h2).imp (fun h=>(Yh h)) (fun h=>(Yh h)));(try have bq_:=qj);(try have n3_:=Yl hr3);(try have n4_:=Yl hr4);first|exact PM _ _))
    rintro s hv0
    refine Ze (TL.run 1 [] [(1,.p0 b1),(4,.i r2),(50,.i s),(51,.b (decide (s<4096)))] rfl {} (Zz (TC.cond (decide (s<4096)) rfl Kr (fun h3=>?_) (fun h3=>?_))))
    ·refine Yg (TC.seq (TC.block (Ze (TL.run 2 [] [(1,.p0 b1),(4,.i r2),(5,.i s),(50,.i s)] rfl {} (Zv (TL.run 3 [] [(1,.p0 b1),(4,.i r2),(5,.i s),(50,.i s),(55,.i (w64 (r2+s)))] rfl {} (TL.rw 55 (.i (w64 (r2+s))) (.i (r2+s)) Kr (int_eq (by have q0_:=(Zt (Zx (Zx (Zx h1))));have q1_:=(Zt (Z9 (Zx (Zx h1))));have q2_:=(Zt (Z9 (Zx h1)));have q3_:=(Zt (Z9 h1));have q4_:=((Qq h2).imp (fun h=>(Yh h)) (fun h=>(Yh h)));have q5_:=(Ys h3);(try have bq_:=qj);(try have n3_:=Yl hr3);(try have n4_:=Yl hr4);have k9:=hv0.1;rw[Zu (x:=(r2+s)) (by omega)])) (TL.call (some 56) [(1,.p0 b1),(4,.i r2),(5,.i s),(50,.i s),(56,.i (Yj (r2+s)))] (fun w _=>K7 (r2+s) w) Kr Kr ?_))))))))
     generalize hr3:Yj (r2+s)=r3
     refine TL.run 5 [] [(1,.p0 b1),(4,.i r2),(5,.i s),(6,.i r3),(50,.i s)] rfl {} (Zz (Ze (TL.run 3 [] [(1,.p0 b1),(4,.i r2),(5,.i s),(6,.i r3),(50,.i s),(59,.b ((s.tmod 2)==1))] rfl {} (Zb rfl (TC.cond ((s.tmod 2)==1) rfl Kr (fun h4=>?_) (fun h4=>?_))))))
     ·refine TC.region (TL.run 3 [] [(1,.p0 b1),(4,.i r2),(50,.i s),(62,.i (w64 (r2-s)))] rfl {} (TL.rw 62 (.i (w64 (r2-s))) (.i (r2-s)) Kr (int_eq (by have q0_:=(Zt (Zx (Zx (Zx h1))));have q1_:=(Zt (Z9 (Zx (Zx h1))));have q2_:=(Zt (Z9 (Zx h1)));have q3_:=(Zt (Z9 h1));have q4_:=((Qq h2).imp (fun h=>(Yh h)) (fun h=>(Yh h)));have q5_:=(Ys h3);have q6_:=(Xf h4);(try have bq_:=qj);(try have n3_:=Yl hr3);(try have n4_:=Yl hr4);have k9:=hv0.1;rw[Zu (x:=(r2-s)) (by omega)])) (TL.call (some 63) [(1,.p0 b1),(4,.i r2),(50,.i s),(63,.i (Yj (r2-s)))] (fun w _=>K7 (r2-s) w) Kr Kr ?_)))
      generalize hr4:Yj (r2-s)=r4
      refine TL.run 5 [] [(1,.p0 b1),(4,.i r2),(6,.i r4),(50,.i s)] rfl {} (Zv (TL.run 1 [] [(1,.p0 b1),(4,.i r2),(6,.i r4),(50,.i s),(64,.i r4)] rfl {} (TL.call (some 65) [(1,.p0 b1),(4,.i r2),(6,.i r4),(50,.i s),(65,P.v (ZA r4))] (fun w hM=>VM r4 w (hT.sat hM)) Kr Kr ?_)))
      generalize hr5:ZA r4=r5
      refine TL.run 4 [] [(1,.p0 b1),(4,.i r2),(6,.i r4),(50,.i s),(65,P.v r5),(67,.i (w64 (r4+1)))] rfl {} (TL.rw 67 (.i (w64 (r4+1))) (.i (r4+1)) Kr (int_eq (by have q0_:=(Zt (Zx (Zx (Zx h1))));have q1_:=(Zt (Z9 (Zx (Zx h1))));have q2_:=(Zt (Z9 (Zx h1)));have q3_:=(Zt (Z9 h1));have q4_:=((Qq h2).imp (fun h=>(Yh h)) (fun h=>(Yh h)));have q5_:=(Ys h3);have q6_:=(Xf h4);(try have bq_:=qj);(try have n3_:=Yl hr3);(try have n4_:=Yl hr4);have k9:=hv0.1;rw[Zu (x:=(r4+1)) (by omega)])) (TL.call (some 68) [(1,.p0 b1),(4,.i r2),(6,.i r4),(50,.i s),(65,P.v r5),(68,P.v (ZA (r4+1)))] (fun w hM=>VM (r4+1) w (hT.sat hM)) Kr Kr ?_))
      generalize hr6:ZA (r4+1)=r6
      refine K4 0 (fun b2=>[(1,.p0 b1),(4,.i r2),(6,.i r4),(7,.p0 b2),(50,.i s),(65,P.v r5),(68,P.v r6)]) (fun b2=>[Bk b2 (P.c P.zero) 32,Bk b1 (P.c v) 32]) (fun b2=>{}) (fun b2=>K4 0 (fun b3=>[(1,.p0 b1),(4,.i r2),(6,.i r4),(7,.p0 b2),(8,.p0 b3),(50,.i s),(65,P.v r5),(68,P.v r6)]) (fun b3=>[Bk b3 (P.c P.zero) 32,Bk b2 (P.c P.zero) 32,Bk b1 (P.c v) 32]) (fun b3=>{}) (fun b3=>K4 1 (fun _=>[(1,.p0 b1),(4,.i r2),(6,.i r4),(7,.p0 b2),(8,.p0 b3),(50,.i s),(68,P.v r6)]) (fun _=>[Bk b3 (P.c P.zero) 32,Bk b2 (P.c r5) 32,Bk b1 (P.c v) 32]) (fun _=>{}) (fun _=>K4 0 (fun _=>[(1,.p0 b1),(4,.i r2),(6,.i r4),(7,.p0 b2),(8,.p0 b3),(50,.i s)]) (fun _=>[Bk b3 (P.c r6) 32,Bk b2 (P.c r5) 32,Bk b1 (P.c v) 32]) (fun _=>{}) (fun _=>Zz (UA 8 Kr Kr Kr (TQ.run 2 [1,2] [(1,.p0 b1),(4,.i r2),(6,.i r4),(7,.p0 b2),(8,.p0 b3),(50,.i s),(69,P.v r5),(70,P.v v)] rfl {} (TQ.call (some 71) [(1,.p0 b1),(4,.i r2),(6,.i r4),(7,.p0 b2),(8,.p0 b3),(50,.i s),(71,.i (ZO r5 v))] (fun w _=>V1 r5 v w) rfl Kr Kr ?_)))))))
      generalize hr7:ZO r5 v=r7
      refine TQ.run 5 [2,0] [(1,.p0 b1),(4,.i r2),(6,.i r4),(7,.p0 b2),(50,.i s),(71,.i r7),(72,P.v v),(73,P.v r6)] rfl {} (TQ.call (some 74) [(1,.p0 b1),(4,.i r2),(6,.i r4),(7,.p0 b2),(50,.i s),(71,.i r7),(74,.i (ZO v r6))] (fun w _=>V1 v r6 w) rfl Kr Kr ?_)
      generalize hr8:ZO v r6=r8
      refine TQ.run 8 [] [(1,.p0 b1),(4,.i r2),(6,.i r4),(7,.p0 b2),(9,.i r7),(10,.i r8),(50,.i s)] rfl {} (VT rfl (Ze (TL.run 3 [] [(1,.p0 b1),(4,.i r2),(6,.i r4),(7,.p0 b2),(9,.i r7),(10,.i r8),(50,.i s),(77,.b (decide (r7≥0)))] rfl {} (VR 77 (decide (r7≥0)) 6 [] [] (fun β=>[(1,.p0 b1),(4,.i r2),(6,.i r4),(7,.p0 b2),(9,.i r7),(10,.i r8),(50,.i s),(80,.b (β&&(decide (r8>0))))]) Kr rfl {} {} (TL.run 7 [] [(1,.p0 b1),(4,.i r2),(6,.i r4),(7,.p0 b2),(9,.i r7),(10,.i r8),(50,.i s),(81,.b ((decide (r7≥0))&&(decide (r8>0))))] rfl {} (VR 81 ((decide (r7≥0))&&(decide (r8>0))) 20 [1,2,1,2] [] (fun β=>[(1,.p0 b1),(4,.i r2),(6,.i r4),(9,.i r7),(10,.i r8),(50,.i s),(94,.b (β&&(decide ((w64 ((w64 (r5.X*v.X))+(w64 (r5.Y*v.Y))))>0))))]) Kr rfl {} {} (Zb rfl (TC.cond (((decide (r7≥0))&&(decide (r8>0)))&&(decide ((w64 ((w64 (r5.X*v.X))+(w64 (r5.Y*v.Y))))>0))) rfl Kr (fun h5=>?_) (fun h5=>?_)))))))))
      ·refine TC.seq (Ze (TL.run 3 [] [(6,.i r4),(97,.b (decide (r7≤r8)))] rfl {} (Zb rfl (TC.cond (decide (r7≤r8)) rfl Kr (fun h6=>?_) (fun h6=>?_)))))
       ·refine Ze (TL.run 3 [] [(2,.i r4),(3,.i 0)] rfl {} (Zb rfl (TC.ret (Zq (ZY (Zq (Zq (ZY (Zq (Zq ?_))))))))))
        exact ZN (.inl rfl) (r4,0) [] (.tuple #[.i r4,.i 0]) {} rfl (fun _ hM=>(hM.sub (sb 0)).fact (by have q0_:=(Zt (Zx (Zx (Zx h1))));have q1_:=(Zt (Z9 (Zx (Zx h1))));have q2_:=(Zt (Z9 (Zx h1)));have q3_:=(Zt (Z9 h1));have q4_:=((Qq h2).imp (fun h=>(Yh h)) (fun h=>(Yh h)));have q5_:=(Ys h3);have q6_:=(Xf h4);have q7_:=(Ys (Jl (Jl h5)));have q8_:=(Ys (JZ (Jl h5)));have q9_:=(Ys (JZ h5));have fh:=(Ys h6);(try have bq_:=qj);(try have n3_:=Yl hr3);(try have n4_:=Yl hr4);have k9:=hv0.1;(try dsimp only);first|exact W6 (by omega)|exact U0 (X6 h1) (by omega)|exact U3 (X6 h1) (Q5 h2) hr4 hr5 hr6 hr7 hr8 h5 h6 hr9|exact U3 (X6 h1) (Q5 h2) hr3 zl zo z8 xa h7 h8 kv|exact U2 (X6 h1) (Q5 h2) hr4 hr5 hr6 hr7 hr8 h5 h6|exact U2 (X6 h1) (Q5 h2) hr3 zl zo z8 xa h7 h8|exact False.elim ho0))
       ·refine ZI (TL.run 2 [] [(100,.i (w64 (r4+1)))] rfl {} (TL.rw 100 (.i (w64 (r4+1))) (.i (r4+1)) Kr (int_eq (by have q0_:=(Zt (Zx (Zx (Zx h1))));have q1_:=(Zt (Z9 (Zx (Zx h1))));have q2_:=(Zt (Z9 (Zx h1)));have q3_:=(Zt (Z9 h1));have q4_:=((Qq h2).imp (fun h=>(Yh h)) (fun h=>(Yh h)));have q5_:=(Ys h3);have q6_:=(Xf h4);have q7_:=(Ys (Jl (Jl h5)));have q8_:=(Ys (JZ (Jl h5)));have q9_:=(Ys (JZ h5));have fh:=(Zt h6);(try have bq_:=qj);(try have n3_:=Yl hr3);(try have n4_:=Yl hr4);have k9:=hv0.1;rw[Zu (x:=(r4+1)) (by omega)])) (TL.call (some 101) [(101,.i (Yj (r4+1)))] (fun w _=>K7 (r4+1) w) Kr Kr ?_)))
        generalize hr9:Yj (r4+1)=r9
        refine TL.run 5 [] [(2,.i r9),(3,.i 0)] rfl {} (Zb rfl (TC.ret (ZY (Zq (Zq (ZY (Zq (Zq ?_))))))))
        exact ZN (.inl rfl) (r9,0) [] (.tuple #[.i r9,.i 0]) {} rfl (fun _ hM=>(hM.sub (sb 0)).fact (by have q0_:=(Zt (Zx (Zx (Zx h1))));have q1_:=(Zt (Z9 (Zx (Zx h1))));have q2_:=(Zt (Z9 (Zx h1)));have q3_:=(Zt (Z9 h1));have q4_:=((Qq h2).imp (fun h=>(Yh h)) (fun h=>(Yh h)));have q5_:=(Ys h3);have q6_:=(Xf h4);have q7_:=(Ys (Jl (Jl h5)));have q8_:=(Ys (JZ (Jl h5)));have q9_:=(Ys (JZ h5));have fh:=(Zt h6);(try have bq_:=qj);(try have n3_:=Yl hr3);(try have n4_:=Yl hr4);have k9:=hv0.1;(try dsimp only);first|exact W6 (by omega)|exact U0 (X6 h1) (by omega)|exact U3 (X6 h1) (Q5 h2) hr4 hr5 hr6 hr7 hr8 h5 h6 hr9|exact U3 (X6 h1) (Q5 h2) hr3 zl zo z8 xa h7 h8 kv|exact U2 (X6 h1) (Q5 h2) hr4 hr5 hr6 hr7 hr8 h5 h6|exact U2 (X6 h1) (Q5 h2) hr3 zl zo z8 xa h7 h8|exact False.elim ho0))
      ·exact TC.skip (Yr (Z4 (TC.region (TL.run 2 [] [(1,.p0 b1),(4,.i r2),(50,.i (w64 (s+1)))] rfl {} (TL.rw 50 (.i (w64 (s+1))) (.i (s+1)) Kr (int_eq (by have q0_:=(Zt (Zx (Zx (Zx h1))));have q1_:=(Zt (Z9 (Zx (Zx h1))));have q2_:=(Zt (Z9 (Zx h1)));have q3_:=(Zt (Z9 h1));have q4_:=((Qq h2).imp (fun h=>(Yh h)) (fun h=>(Yh h)));have q5_:=(Ys h3);have q6_:=(Xf h4);have q7_:=((Qq h5).imp (fun h=>((Qq h).imp (fun h=>(Zt h)) (fun h=>(Zt h)))) (fun h=>(Zt h)));(try have bq_:=qj);(try have n3_:=Yl hr3);(try have n4_:=Yl hr4);have k9:=hv0.1;rw[Zu (x:=(s+1)) (by omega)])) (Z2 rfl (Z7 (x:=s) (s+1) (by have q0_:=(Zt (Zx (Zx (Zx h1))));have q1_:=(Zt (Z9 (Zx (Zx h1))));have q2_:=(Zt (Z9 (Zx h1)));have q3_:=(Zt (Z9 h1));have q4_:=((Qq h2).imp (fun h=>(Yh h)) (fun h=>(Yh h)));have q5_:=(Ys h3);have q6_:=(Xf h4);have q7_:=((Qq h5).imp (fun h=>((Qq h).imp (fun h=>(Zt h)) (fun h=>(Zt h)))) (fun h=>(Zt h)));(try have bq_:=qj);(try have n3_:=Yl hr3);(try have n4_:=Yl hr4);have k9:=hv0.1;first|exact EZ (X6 h1) hv0 (of_decide_eq_true h3) h4 hr4 hr5 hr6 hr7 hr8 h5|exact Ia (X6 h1) hv0 (of_decide_eq_true h3) h4 hr3 zl zo z8 xa h7) (by have q0_:=(Zt (Zx (Zx (Zx h1))));have q1_:=(Zt (Z9 (Zx (Zx h1))));have q2_:=(Zt (Z9 (Zx h1)));have q3_:=(Zt (Z9 h1));have q4_:=((Qq h2).imp (fun h=>(Yh h)) (fun h=>(Yh h)));have q5_:=(Ys h3);have q6_:=(Xf h4);have q7_:=((Qq h5).imp (fun h=>((Qq h).imp (fun h=>(Zt h)) (fun h=>(Zt h)))) (fun h=>(Zt h)));(try have bq_:=qj);(try have n3_:=Yl hr3);(try have n4_:=Yl hr4);have k9:=hv0.1;(try clear hr4);(try clear hr3);(try clear hr5);(try clear hr6);(try clear hr7);(try clear hr8);(try clear hr9);(try clear zl);(try clear zo);(try clear z8);(try clear xa);(try clear kv); omega) Kr (sb 4))))))))
     ·refine ZI (TL.run 1 [] [(1,.p0 b1),(4,.i r2),(6,.i r3),(50,.i s),(64,.i r3)] rfl {} (TL.call (some 65) [(1,.p0 b1),(4,.i r2),(6,.i r3),(50,.i s),(65,P.v (ZA r3))] (fun w hM=>VM r3 w (hT.sat hM)) Kr Kr ?_))
      generalize zl:ZA r3=r10
      refine TL.run 4 [] [(1,.p0 b1),(4,.i r2),(6,.i r3),(50,.i s),(65,P.v r10),(67,.i (w64 (r3+1)))] rfl {} (TL.rw 67 (.i (w64 (r3+1))) (.i (r3+1)) Kr (int_eq (by have q0_:=(Zt (Zx (Zx (Zx h1))));have q1_:=(Zt (Z9 (Zx (Zx h1))));have q2_:=(Zt (Z9 (Zx h1)));have q3_:=(Zt (Z9 h1));have q4_:=((Qq h2).imp (fun h=>(Yh h)) (fun h=>(Yh h)));have q5_:=(Ys h3);have q6_:=(Yh h4);(try have bq_:=qj);(try have n3_:=Yl hr3);(try have n4_:=Yl hr4);have k9:=hv0.1;rw[Zu (x:=(r3+1)) (by omega)])) (TL.call (some 68) [(1,.p0 b1),(4,.i r2),(6,.i r3),(50,.i s),(65,P.v r10),(68,P.v (ZA (r3+1)))] (fun w hM=>VM (r3+1) w (hT.sat hM)) Kr Kr ?_))
      generalize zo:ZA (r3+1)=r11
      refine K4 0 (fun b4=>[(1,.p0 b1),(4,.i r2),(6,.i r3),(7,.p0 b4),(50,.i s),(65,P.v r10),(68,P.v r11)]) (fun b4=>[Bk b4 (P.c P.zero) 32,Bk b1 (P.c v) 32]) (fun b4=>{}) (fun b4=>K4 0 (fun b5=>[(1,.p0 b1),(4,.i r2),(6,.i r3),(7,.p0 b4),(8,.p0 b5),(50,.i s),(65,P.v r10),(68,P.v r11)]) (fun b5=>[Bk b5 (P.c P.zero) 32,Bk b4 (P.c P.zero) 32,Bk b1 (P.c v) 32]) (fun b5=>{}) (fun b5=>K4 1 (fun _=>[(1,.p0 b1),(4,.i r2),(6,.i r3),(7,.p0 b4),(8,.p0 b5),(50,.i s),(68,P.v r11)]) (fun _=>[Bk b5 (P.c P.zero) 32,Bk b4 (P.c r10) 32,Bk b1 (P.c v) 32]) (fun _=>{}) (fun _=>K4 0 (fun _=>[(1,.p0 b1),(4,.i r2),(6,.i r3),(7,.p0 b4),(8,.p0 b5),(50,.i s)]) (fun _=>[Bk b5 (P.c r11) 32,Bk b4 (P.c r10) 32,Bk b1 (P.c v) 32]) (fun _=>{}) (fun _=>Zz (UA 8 Kr Kr Kr (TQ.run 2 [1,2] [(1,.p0 b1),(4,.i r2),(6,.i r3),(7,.p0 b4),(8,.p0 b5),(50,.i s),(69,P.v r10),(70,P.v v)] rfl {} (TQ.call (some 71) [(1,.p0 b1),(4,.i r2),(6,.i r3),(7,.p0 b4),(8,.p0 b5),(50,.i s),(71,.i (ZO r10 v))] (fun w _=>V1 r10 v w) rfl Kr Kr ?_)))))))
      generalize z8:ZO r10 v=r12
      refine TQ.run 5 [2,0] [(1,.p0 b1),(4,.i r2),(6,.i r3),(7,.p0 b4),(50,.i s),(71,.i r12),(72,P.v v),(73,P.v r11)] rfl {} (TQ.call (some 74) [(1,.p0 b1),(4,.i r2),(6,.i r3),(7,.p0 b4),(50,.i s),(71,.i r12),(74,.i (ZO v r11))] (fun w _=>V1 v r11 w) rfl Kr Kr ?_)
      generalize xa:ZO v r11=r13
      refine TQ.run 8 [] [(1,.p0 b1),(4,.i r2),(6,.i r3),(7,.p0 b4),(9,.i r12),(10,.i r13),(50,.i s)] rfl {} (VT rfl (Ze (TL.run 3 [] [(1,.p0 b1),(4,.i r2),(6,.i r3),(7,.p0 b4),(9,.i r12),(10,.i r13),(50,.i s),(77,.b (decide (r12≥0)))] rfl {} (VR 77 (decide (r12≥0)) 6 [] [] (fun β=>[(1,.p0 b1),(4,.i r2),(6,.i r3),(7,.p0 b4),(9,.i r12),(10,.i r13),(50,.i s),(80,.b (β&&(decide (r13>0))))]) Kr rfl {} {} (TL.run 7 [] [(1,.p0 b1),(4,.i r2),(6,.i r3),(7,.p0 b4),(9,.i r12),(10,.i r13),(50,.i s),(81,.b ((decide (r12≥0))&&(decide (r13>0))))] rfl {} (VR 81 ((decide (r12≥0))&&(decide (r13>0))) 20 [1,2,1,2] [] (fun β=>[(1,.p0 b1),(4,.i r2),(6,.i r3),(9,.i r12),(10,.i r13),(50,.i s),(94,.b (β&&(decide ((w64 ((w64 (r10.X*v.X))+(w64 (r10.Y*v.Y))))>0))))]) Kr rfl {} {} (Zb rfl (TC.cond (((decide (r12≥0))&&(decide (r13>0)))&&(decide ((w64 ((w64 (r10.X*v.X))+(w64 (r10.Y*v.Y))))>0))) rfl Kr (fun h7=>?_) (fun h7=>?_)))))))))
      ·refine TC.seq (Ze (TL.run 3 [] [(6,.i r3),(97,.b (decide (r12≤r13)))] rfl {} (Zb rfl (TC.cond (decide (r12≤r13)) rfl Kr (fun h8=>?_) (fun h8=>?_)))))
       ·refine Ze (TL.run 3 [] [(2,.i r3),(3,.i 0)] rfl {} (Zb rfl (TC.ret (Zq (ZY (Zq (Zq (ZY (Zq (Zq ?_))))))))))
        exact ZN (.inl rfl) (r3,0) [] (.tuple #[.i r3,.i 0]) {} rfl (fun _ hM=>(hM.sub (sb 0)).fact (by have q0_:=(Zt (Zx (Zx (Zx h1))));have q1_:=(Zt (Z9 (Zx (Zx h1))));have q2_:=(Zt (Z9 (Zx h1)));have q3_:=(Zt (Z9 h1));have q4_:=((Qq h2).imp (fun h=>(Yh h)) (fun h=>(Yh h)));have q5_:=(Ys h3);have q6_:=(Yh h4);have q7_:=(Ys (Jl (Jl h7)));have q8_:=(Ys (JZ (Jl h7)));have q9_:=(Ys (JZ h7));have fh:=(Ys h8);(try have bq_:=qj);(try have n3_:=Yl hr3);(try have n4_:=Yl hr4);have k9:=hv0.1;(try dsimp only);first|exact W6 (by omega)|exact U0 (X6 h1) (by omega)|exact U3 (X6 h1) (Q5 h2) hr4 hr5 hr6 hr7 hr8 h5 h6 hr9|exact U3 (X6 h1) (Q5 h2) hr3 zl zo z8 xa h7 h8 kv|exact U2 (X6 h1) (Q5 h2) hr4 hr5 hr6 hr7 hr8 h5 h6|exact U2 (X6 h1) (Q5 h2) hr3 zl zo z8 xa h7 h8|exact False.elim ho0))
       ·refine ZI (TL.run 2 [] [(100,.i (w64 (r3+1)))] rfl {} (TL.rw 100 (.i (w64 (r3+1))) (.i (r3+1)) Kr (int_eq (by have q0_:=(Zt (Zx (Zx (Zx h1))));have q1_:=(Zt (Z9 (Zx (Zx h1))));have q2_:=(Zt (Z9 (Zx h1)));have q3_:=(Zt (Z9 h1));have q4_:=((Qq h2).imp (fun h=>(Yh h)) (fun h=>(Yh h)));have q5_:=(Ys h3);have q6_:=(Yh h4);have q7_:=(Ys (Jl (Jl h7)));have q8_:=(Ys (JZ (Jl h7)));have q9_:=(Ys (JZ h7));have fh:=(Zt h8);(try have bq_:=qj);(try have n3_:=Yl hr3);(try have n4_:=Yl hr4);have k9:=hv0.1;rw[Zu (x:=(r3+1)) (by omega)])) (TL.call (some 101) [(101,.i (Yj (r3+1)))] (fun w _=>K7 (r3+1) w) Kr Kr ?_)))
        generalize kv:Yj (r3+1)=r14
        refine TL.run 5 [] [(2,.i r14),(3,.i 0)] rfl {} (Zb rfl (TC.ret (ZY (Zq (Zq (ZY (Zq (Zq ?_))))))))
        exact ZN (.inl rfl) (r14,0) [] (.tuple #[.i r14,.i 0]) {} rfl (fun _ hM=>(hM.sub (sb 0)).fact (by have q0_:=(Zt (Zx (Zx (Zx h1))));have q1_:=(Zt (Z9 (Zx (Zx h1))));have q2_:=(Zt (Z9 (Zx h1)));have q3_:=(Zt (Z9 h1));have q4_:=((Qq h2).imp (fun h=>(Yh h)) (fun h=>(Yh h)));have q5_:=(Ys h3);have q6_:=(Yh h4);have q7_:=(Ys (Jl (Jl h7)));have q8_:=(Ys (JZ (Jl h7)));have q9_:=(Ys (JZ h7));have fh:=(Zt h8);(try have bq_:=qj);(try have n3_:=Yl hr3);(try have n4_:=Yl hr4);have k9:=hv0.1;(try dsimp only);first|exact W6 (by omega)|exact U0 (X6 h1) (by omega)|exact U3 (X6 h1) (Q5 h2) hr4 hr5 hr6 hr7 hr8 h5 h6 hr9|exact U3 (X6 h1) (Q5 h2) hr3 zl zo z8 xa h7 h8 kv|exact U2 (X6 h1) (Q5 h2) hr4 hr5 hr6 hr7 hr8 h5 h6|exact U2 (X6 h1) (Q5 h2) hr3 zl zo z8 xa h7 h8|exact False.elim ho0))
      ·exact TC.skip (Yr (Z4 (TC.region (TL.run 2 [] [(1,.p0 b1),(4,.i r2),(50,.i (w64 (s+1)))] rfl {} (TL.rw 50 (.i (w64 (s+1))) (.i (s+1)) Kr (int_eq (by have q0_:=(Zt (Zx (Zx (Zx h1))));have q1_:=(Zt (Z9 (Zx (Zx h1))));have q2_:=(Zt (Z9 (Zx h1)));have q3_:=(Zt (Z9 h1));have q4_:=((Qq h2).imp (fun h=>(Yh h)) (fun h=>(Yh h)));have q5_:=(Ys h3);have q6_:=(Yh h4);have q7_:=((Qq h7).imp (fun h=>((Qq h).imp (fun h=>(Zt h)) (fun h=>(Zt h)))) (fun h=>(Zt h)));(try have bq_:=qj);(try have n3_:=Yl hr3);(try have n4_:=Yl hr4);have k9:=hv0.1;rw[Zu (x:=(s+1)) (by omega)])) (Z2 rfl (Z7 (x:=s) (s+1) (by have q0_:=(Zt (Zx (Zx (Zx h1))));have q1_:=(Zt (Z9 (Zx (Zx h1))));have q2_:=(Zt (Z9 (Zx h1)));have q3_:=(Zt (Z9 h1));have q4_:=((Qq h2).imp (fun h=>(Yh h)) (fun h=>(Yh h)));have q5_:=(Ys h3);have q6_:=(Yh h4);have q7_:=((Qq h7).imp (fun h=>((Qq h).imp (fun h=>(Zt h)) (fun h=>(Zt h)))) (fun h=>(Zt h)));(try have bq_:=qj);(try have n3_:=Yl hr3);(try have n4_:=Yl hr4);have k9:=hv0.1;first|exact EZ (X6 h1) hv0 (of_decide_eq_true h3) h4 hr4 hr5 hr6 hr7 hr8 h5|exact Ia (X6 h1) hv0 (of_decide_eq_true h3) h4 hr3 zl zo z8 xa h7) (by have q0_:=(Zt (Zx (Zx (Zx h1))));have q1_:=(Zt (Z9 (Zx (Zx h1))));have q2_:=(Zt (Z9 (Zx h1)));have q3_:=(Zt (Z9 h1));have q4_:=((Qq h2).imp (fun h=>(Yh h)) (fun h=>(Yh h)));have q5_:=(Ys h3);have q6_:=(Yh h4);have q7_:=((Qq h7).imp (fun h=>((Qq h).imp (fun h=>(Zt h)) (fun h=>(Zt h)))) (fun h=>(Zt h)));(try have bq_:=qj);(try have n3_:=Yl hr3);(try have n4_:=Yl hr4);have k9:=hv0.1;(try clear hr4);(try clear hr3);(try clear hr5);(try clear hr6);(try clear hr7);(try clear hr8);(try clear hr9);(try clear zl);(try clear zo);(try clear z8);(try clear xa);(try clear kv); omega) Kr (sb 4))))))))
    ·refine TC.exit (Yc (Yc (Z1 ?_)))
     exact TE.cut () (by have q0_:=(Zt (Zx (Zx (Zx h1))));have q1_:=(Zt (Z9 (Zx (Zx h1))));have q2_:=(Zt (Z9 (Zx h1)));have q3_:=(Zt (Z9 h1));have q4_:=((Qq h2).imp (fun h=>(Yh h)) (fun h=>(Yh h)));have q5_:=(Zt h3);(try have bq_:=qj);(try have n3_:=Yl hr3);(try have n4_:=Yl hr4);have k9:=hv0.1;first|exact IG (Q5 h2) hv0 (of_decide_eq_false h3)) Kr (sb 1)
   ·intro _ ho0
    exact YZ (TL.run 2 [] [(2,.i 0),(3,.i 0)] rfl {} (Zb rfl (TC.ret (ZN (.inl rfl) (0,0) [] (.tuple #[.i 0,.i 0]) {} rfl (fun _ hM=>(hM.sub (sb 0)).fact (by have q0_:=(Zt (Zx (Zx (Zx h1))));have q1_:=(Zt (Z9 (Zx (Zx h1))));have q2_:=(Zt (Z9 (Zx h1)));have q3_:=(Zt (Z9 h1));have q4_:=((Qq h2).imp (fun h=>(Yh h)) (fun h=>(Yh h)));(try have bq_:=qj);(try have n3_:=Yl hr3);(try have n4_:=Yl hr4);(try dsimp only);first|exact W6 (by omega)|exact U0 (X6 h1) (by omega)|exact U3 (X6 h1) (Q5 h2) hr4 hr5 hr6 hr7 hr8 h5 h6 hr9|exact U3 (X6 h1) (Q5 h2) hr3 zl zo z8 xa h7 h8 kv|exact U2 (X6 h1) (Q5 h2) hr4 hr5 hr6 hr7 hr8 h5 h6|exact U2 (X6 h1) (Q5 h2) hr3 zl zo z8 xa h7 h8|exact False.elim ho0))))))
end Go.Sky
end
section
namespace Go.Sky
open Go Go.Eng Go.Proofs
def Jz (h_:Int) (length:Int):P×Int :=
 cond ((decide (length<0))||(decide (length>2000000))) (
  ((⟨0,0⟩:P),4)) (
  let r1:=Jv h_
  let r2:=(Qf (w64 (length*r1)))
  let r3:=JW h_
  let r4:=(Qf (w64 (length*r3)))
  ((⟨r2,r4⟩:P),0))
theorem CP {h r:Int} (hr:Jv h=r):-16384≤r∧r≤16384:=by rw[N1] at hr;rw[← hr];exact Rw (by omega)
theorem Ez {h r:Int} (hr:JW h=r):-16384≤r∧r≤16384:=by
 unfold JW at hr;exact CP hr
theorem PN {l r:Int} (hl:0≤l∧l≤2000000) (hr:-16384≤r∧r≤16384):-4611686018427387904≤w64 (l*r)∧w64 (l*r)≤4611686018427387904:=by
 have:=Ud hr (b:=l) (by omega)
 rw[dX r l] at this
 rw[Zu (by omega)];omega
theorem Df (h_:Int) (length:Int) (w:World) (hT:W4 w):Calls Tryz.prog 70 #[.int .i64 h_,.int .i64 length] w (Ret w (.tuple #[P.v ((Jz h_ length).1),.int .i64 ((Jz h_ length).2)])):=by
 refine Zo (vs:=[.i h_,.i length]) (w:=w) Tryz.func70 rfl Tryz.ntmps70 rfl (Ze (ZH 4 (fun b1=>.p0 b1) (fun b1=>Bk b1 (P.c P.zero) 32) (fun b1=>{}) (fun b1=>Zc 2 [] [(5,.i 0)] {} (Zz (Ze (Zc 3 [] [(8,.b (decide (length<0)))] {} (XT 8 (decide (length<0)) 6 [] [] (fun β=>[(11,.b (β||(decide (length>2000000))))]) Kr {} {} (Zb rfl (TC.cond ((decide (length<0))||(decide (length>2000000))) rfl Kr (fun h1=>?_) (fun h1=>?_))))))))))
 ·exact Ze (Zc 1 [] [(12,P.v P.zero)] {} (Ym 0 (Bk b1 (P.c P.zero) 32) (fun _=>{}) (Zc 3 [] [(5,.i 4)] {} (Zb rfl (TC.ret (Zq (TE.ret [0] (.tuple #[P.v (⟨0,0⟩:P),.i 4]) {} (by unfold Jz;refine eS (a:=((⟨0,0⟩:P),4)) (fun (z:P×Int)=>(.tuple #[P.v z.1,.i z.2]:Value)) ?_;exact Zk h1 (rfl)))))))))
 ·have j4:=(Zt (Zx h1))
  have dj:=(Zt (Z9 h1))
  refine ZI (Zc 2 [] [(13,.i length),(14,.i h_)] {} (TL.c 15 (Jv h_) (fun r1=>.i r1) (fun w hM=>G4 h_ w (hT.sat hM)) {} (fun r1 hr1=>Zc 4 [] [(16,.i (w64 (length*r1)))] {} (Xx (Γ:=Int) (fun g=>.i g) (fun g=>[.inr (XG (g=Qf (w64 (length*r1))))]) [] [Bk b1 (P.c P.zero) 32] (some 17) (fun g=>[(0,.i h_),(1,.i length),(4,.p0 b1),(17,.i g)]) (fun w hM=>Hg (w64 (length*r1)) 16384 w hM.pass rfl (by subst hr1;exact PN (by omega) (CP rfl))) Kr (fun g=>Kr) ?_))))
  rintro r2
  refine YS [.inr (XG (r2=Qf (w64 (length*r1)))),Bk b1 (P.c P.zero) 32] (fun _ hM=>hM) (Y2 (fun w hM=>hM.fact_at 0 rfl) (fun jb=>YK [Bk b1 (P.c P.zero) 32] (.cons _ (aA _)) ?_))
  have hr2:(Qf (w64 (length*r1)))=r2:=(jb).symm
  refine Zc 7 [] [(18,.i length),(19,.i h_)] {} (TL.c 20 (JW h_) (fun r3=>.i r3) (fun w hM=>HV h_ w (hT.sat hM)) {} (fun r3 hr3=>Zc 9 [] [(21,.i (w64 (length*r3)))] {} (Xx (Γ:=Int) (fun g=>.i g) (fun g=>[.inr (XG (g=Qf (w64 (length*r3))))]) [] [Bk b1 (P.c P.zero) 32] (some 22) (fun g=>[(4,.p0 b1),(17,.i r2),(22,.i g)]) (fun w hM=>Hg (w64 (length*r3)) 16384 w hM.pass rfl (by subst hr1 hr2 hr3;exact PN (by omega) (Ez rfl))) Kr (fun g=>Kr) ?_)))
  rintro r4
  refine YS [.inr (XG (r4=Qf (w64 (length*r3)))),Bk b1 (P.c P.zero) 32] (fun _ hM=>hM) (Y2 (fun w hM=>hM.fact_at 0 rfl) (fun jb=>YK [Bk b1 (P.c P.zero) 32] (.cons _ (aA _)) ?_))
  have hr4:(Qf (w64 (length*r3)))=r4:=(jb).symm
  exact Zc 11 [] [(23,P.v (⟨r2,r4⟩:P))] {} (Ym 0 (Bk b1 (P.c (⟨r2,r4⟩:P)) 32) (fun _=>{}) (Zc 13 [] [(5,.i 0)] {} (Zb rfl (TC.ret (TE.ret [0] (.tuple #[P.v (⟨r2,r4⟩:P),.i 0]) {} (by unfold Jz;refine eS (a:=((⟨r2,r4⟩:P),0)) (fun (z:P×Int)=>(.tuple #[P.v z.1,.i z.2]:Value)) ?_;subst hr1 hr2 hr3 hr4;exact Zd h1 (rfl)))))))
end Go.Sky
end
section
namespace Go.Sky
open Go Go.Eng Go.Proofs
def Qu (n:Int):Nat→Int→Int→Option Int
 | 0,_,_=>none
 | m+1,low,high=>cond (decide (low<high)) (
   cond (decide ((w64 ((w64 (low+(w64 ((w64 ((w64 (high-low))+1)).tdiv 2))))*(w64 (low+(w64 ((w64 ((w64 (high-low))+1)).tdiv 2))))))≤n)) (
    Qu n m (w64 (low+(w64 ((w64 ((w64 (high-low))+1)).tdiv 2)))) high) (
    Qu n m low (w64 ((w64 (low+(w64 ((w64 ((w64 (high-low))+1)).tdiv 2))))-1)))) (
   some (low))
def Qv (n:Int):Int :=
 cond (decide (n≤0)) (
  0) (
  Xq ((Qu n 34 0 3037000499).getD 0) (fun je =>
   je))
theorem W7 (n:Int):∀ (j:Nat) (a b:Int),(0≤a∧b≤3037000499∧b-a<2 ^ j)→∃ R,Qu n (j+1) a b=some R
 | 0,a,b,h=>by
  have e:(2:Int) ^ 0=1:=rfl
  have hk:decide (a<b)=false:=by simp;omega
  exact⟨a,by rw[Qu,hk];rfl⟩
 | j+1,a,b,h=>by
  have e:(2:Int) ^ (j+1)=2*2 ^ j:=by rw[Int.pow_succ];omega
  by_cases hk:a<b
  ·have w1:w64 (w64 (b-a)+1)=b-a+1:=by rw[Zu (x:=b-a) (by omega),Zu (by omega)]
   have d1:(b-a+1).tdiv 2=(b-a+1)/2:=dC (by omega)
   have w2:w64 ((w64 (w64 (b-a)+1)).tdiv 2)=(b-a+1)/2:=by rw[w1,d1,Zu (by omega)]
   have w3:w64 (a+w64 ((w64 (w64 (b-a)+1)).tdiv 2))=a+(b-a+1)/2:=by rw[w2,Zu (by omega)]
   rw[Qu,decide_eq_true hk]
   simp only[cond_true,w3]
   cases decide (w64 ((a+(b-a+1)/2)*(a+(b-a+1)/2))≤n)
   ·rw[cond_false,Zu (by omega)]
    exact W7 n j a _ (by omega)
   ·rw[cond_true]
    exact W7 n j _ b (by omega)
  ·exact⟨a,by rw[Qu,decide_eq_false hk];rfl⟩
theorem RD (n:Int) (w:World):Calls Tryz.prog 57 #[.int .i64 n] w (Ret w (.int .i64 (Qv n))):=by
 refine Zo (vs:=[.i n]) (w:=w) Tryz.func57 rfl Tryz.ntmps57 rfl (Ze (Zc 1 [] [(2,.i 0)] {} (Zz (Ze (Zc 2 [] [(7,.b (decide (n≤0)))] {} (Zb rfl (TC.cond (decide (n≤0)) rfl Kr (fun h1=>?_) (fun h1=>?_))))))))
 ·exact Ze (Zc 1 [] [(2,.i 0)] {} (Zb rfl (TC.ret (Zq (TE.ret [] (.i 0) {} (by unfold Qv;refine eS (fun z=>(.i z:Value)) ?_;exact Zk h1 (rfl)))))))
 ·have j4:=(Zt h1)
  refine ZI (Zc 2 [] [(3,.i 0),(4,.i 3037000499)] {} (Zz ?_))
  obtain⟨R1,hR⟩:∃ R,Qu n 34 0 3037000499=some R:=W7 n 33 0 3037000499 (by omega)
  refine TC.cut (S:=Int) (fun je=>[(3,.i je)]) (fun je=>[]) (fun je=>R1=je) ?_ ?_
  ·refine TC.block (XB (X:=Nat×Int×Int) (fun (m,low,high)=>[(0,.i n),(3,.i low),(4,.i high)]) (fun (m,low,high)=>[]) (fun (m,low,high)=>m) (fun (m,low,high)=>Qu n m low high=some R1) ?_ (34,0,3037000499) hR Kr (sb 0))
   rintro⟨m,low,high⟩ hI
   rcases m with _|m
   ·cases hI
   refine TC.seq (Ze (Zc 3 [] [(10,.b (decide (low<high)))] {} (Zb rfl (TC.cond (decide (low<high)) rfl Kr (fun h2=>?_) (fun h2=>?_)))))
   ·refine Yg (TC.block (Ze (Zc 8 [] [(5,.i (w64 (low+(w64 ((w64 ((w64 (high-low))+1)).tdiv 2)))))] {} (Zv (Zc 5 [] [(22,.b (decide ((w64 ((w64 (low+(w64 ((w64 ((w64 (high-low))+1)).tdiv 2))))*(w64 (low+(w64 ((w64 ((w64 (high-low))+1)).tdiv 2))))))≤n)))] {} (Zb rfl (TC.cond (decide ((w64 ((w64 (low+(w64 ((w64 ((w64 (high-low))+1)).tdiv 2))))*(w64 (low+(w64 ((w64 ((w64 (high-low))+1)).tdiv 2))))))≤n)) rfl Kr (fun h3=>?_) (fun h3=>?_))))))))
    ·exact TC.region (Zc 2 [] [(3,.i (w64 (low+(w64 ((w64 ((w64 (high-low))+1)).tdiv 2)))))] {} (Z2 rfl (Yr (Z7 (x:=(m+1,low,high)) (m,w64 (low+(w64 ((w64 ((w64 (high-low))+1)).tdiv 2))),high) (by refine Eq.trans (Eq.symm ?_) hI;exact Zk h2 (Zk h3 (rfl))) (cT _) Kr (sb 0)))))
    ·exact TC.region (Zc 3 [] [(4,.i (w64 ((w64 (low+(w64 ((w64 ((w64 (high-low))+1)).tdiv 2))))-1)))] {} (Z2 rfl (Yr (Z7 (x:=(m+1,low,high)) (m,low,w64 ((w64 (low+(w64 ((w64 ((w64 (high-low))+1)).tdiv 2))))-1)) (by refine Eq.trans (Eq.symm ?_) hI;exact Zk h2 (Zd h3 (rfl))) (cT _) Kr (sb 0)))))
   ·refine TC.exit (Yc (Yc (Z1 ?_)))
    exact TE.cut low (cU (hI.symm.trans (by exact Zd h2 (rfl)))) Kr (sb 0)
  ·rintro je hJ
   exact YZ (Zc 2 [] [(2,.i je)] {} (Zb rfl (TC.ret (TE.ret [] (.i je) {} (by unfold Qv;refine eS (fun z=>(.i z:Value)) ?_;exact Zd h1 (Y5 ((congrArg (Option.getD · _) hR).trans hJ) (rfl)))))))
def QO (a:P) (b_:P):Int×Int :=
 let r1:=Yy a b_
 let r2:=Qv r1
 cond (decide ((w64 (r2*r2))<r1)) (
  (r2,w64 (r2+1))) (
  (r2,r2))
theorem HB (a:P) (b_:P) (w:World):Calls Tryz.prog 24 #[P.v a,P.v b_] w (Ret w (.tuple #[.int .i64 ((QO a b_).1),.int .i64 ((QO a b_).2)])):=by
 refine Zo (vs:=[P.v a,P.v b_]) (w:=w) Tryz.func24 rfl Tryz.ntmps24 rfl (Ze (ZH 2 (fun b1=>.p0 b1) (fun b1=>Bk b1 (P.c a) 32) (fun b1=>{}) (fun b1=>ZH 3 (fun b2=>.p0 b2) (fun b2=>Bk b2 (P.c b_) 32) (fun b2=>{}) (fun b2=>Zc 4 [] [(4,.i 0),(5,.i 0)] {} (Zv (Zc 2 [1,0] [(8,P.v a),(9,P.v b_)] {} (TL.c 10 (Yy a b_) (fun r1=>.i r1) (fun w _=>VX a b_ w) {} (fun r1 hr1=>Zc 4 [] [(6,.i r1)] {} (Zv (Zc 1 [] [(11,.i r1)] {} (TL.c 12 (Qv r1) (fun r2=>.i r2) (fun w _=>RD r1 w) {} (fun r2 hr2=>Zc 3 [] [(7,.i r2)] {} (Zz (Ze (Zc 5 [] [(17,.b (decide ((w64 (r2*r2))<r1)))] {} (Zb rfl (TC.cond (decide ((w64 (r2*r2))<r1)) rfl Kr (fun h1=>?_) (fun h1=>?_))))))))))))))))))
 ·exact Ze (Zc 5 [] [(4,.i r2),(5,.i (w64 (r2+1)))] {} (Zb rfl (TC.ret (Zq (TE.ret [] (.tuple #[.i r2,.i (w64 (r2+1))]) {} (by unfold QO;refine eS (a:=(r2,w64 (r2+1))) (fun (z:Int×Int)=>(.tuple #[.i z.1,.i z.2]:Value)) ?_;subst hr1 hr2;exact Zk h1 (rfl)))))))
 ·exact ZI (Zc 4 [] [(4,.i r2),(5,.i r2)] {} (Zb rfl (TC.ret (TE.ret [] (.tuple #[.i r2,.i r2]) {} (by unfold QO;refine eS (a:=(r2,r2)) (fun (z:Int×Int)=>(.tuple #[.i z.1,.i z.2]:Value)) ?_;subst hr1 hr2;exact Zd h1 (rfl))))))
def Y7 (s:Zl):Int :=
 let r1:=ZZ s.ID 0 255
 cond r1 (
  4) (
  let r2:=Xg s.At
  cond (r2 != 0) (
   4) (
   let r3:=ZZ s.Reach 1 1000000
   cond r3 (
    4) (
    let r4:=ZZ s.RangeError 1 10000
    cond r4 (
     4) (
     let r5:=ZZ s.AzimuthError 1 100
     cond r5 (
      4) (
      0)))))
theorem V3 (s:Zl) (w:World):Calls Tryz.prog 21 #[Zl.v s] w (Ret w (.int .i64 (Y7 s))):=by
 refine Zo (vs:=[Zl.v s]) (w:=w) Tryz.func21 rfl Tryz.ntmps21 rfl (Ze (ZH 1 (fun b1=>.p0 b1) (fun b1=>Bk b1 (Zl.c s) 34) (fun b1=>{}) (fun b1=>Zc 2 [] [(2,.i 0)] {} (Zz (Ze (Zc 2 [0] [(4,.i s.ID)] {} (TL.c 5 (ZZ s.ID 0 255) (fun r1=>.b r1) (fun w _=>XJ s.ID 0 255 w) {} (fun r1 hr1=>Zc 4 [] [(6,.b r1)] {} (Yo 6 r1 Kr (fun h1=>?_) (fun h1=>?_))))))))))
 ·exact Zc 24 [] [(26,.b true)] {} (Zb rfl (Xo rfl Kr (Ze (Zc 1 [] [(2,.i 4)] {} (Zb rfl (TC.ret (Zq (TE.ret [] (.i 4) {} (by unfold Y7;refine eS (fun z=>(.i z:Value)) ?_;subst hr1;exact Zk h1 (rfl))))))))))
 ·refine Zc 6 [0] [(8,P.v s.At)] {} (TL.c 9 (Xg s.At) (fun r2=>.i r2) (fun w _=>UD s.At w) {} (fun r2 hr2=>Zc 10 [] [(12,.b (r2 != 0))] {} (Yo 12 (r2 != 0) Kr (fun h2=>?_) (fun h2=>?_))))
  ·exact Zc 24 [] [(26,.b true)] {} (Zb rfl (Xo rfl Kr (Ze (Zc 1 [] [(2,.i 4)] {} (Zb rfl (TC.ret (Zq (TE.ret [] (.i 4) {} (by unfold Y7;refine eS (fun z=>(.i z:Value)) ?_;subst hr1 hr2;exact Zd h1 (Zk h2 (rfl)))))))))))
  ·refine Zc 12 [0] [(14,.i s.Reach)] {} (TL.c 15 (ZZ s.Reach 1 1000000) (fun r3=>.b r3) (fun w _=>XJ s.Reach 1 1000000 w) {} (fun r3 hr3=>Zc 15 [] [(17,.b r3)] {} (Yo 17 r3 Kr (fun h3=>?_) (fun h3=>?_))))
   ·exact Zc 24 [] [(26,.b true)] {} (Zb rfl (Xo rfl Kr (Ze (Zc 1 [] [(2,.i 4)] {} (Zb rfl (TC.ret (Zq (TE.ret [] (.i 4) {} (by unfold Y7;refine eS (fun z=>(.i z:Value)) ?_;subst hr1 hr2 hr3;exact Zd h1 (Zd h2 (Zk h3 (rfl))))))))))))
   ·refine Zc 17 [0] [(19,.i s.RangeError)] {} (TL.c 20 (ZZ s.RangeError 1 10000) (fun r4=>.b r4) (fun w _=>XJ s.RangeError 1 10000 w) {} (fun r4 hr4=>Zc 20 [] [(22,.b r4)] {} (Yo 22 r4 Kr (fun h4=>?_) (fun h4=>?_))))
    ·exact Zc 24 [] [(26,.b true)] {} (Zb rfl (Xo rfl Kr (Ze (Zc 1 [] [(2,.i 4)] {} (Zb rfl (TC.ret (Zq (TE.ret [] (.i 4) {} (by unfold Y7;refine eS (fun z=>(.i z:Value)) ?_;subst hr1 hr2 hr3 hr4;exact Zd h1 (Zd h2 (Zd h3 (Zk h4 (rfl)))))))))))))
    ·refine Zc 22 [0] [(24,.i s.AzimuthError)] {} (TL.c 25 (ZZ s.AzimuthError 1 100) (fun r5=>.b r5) (fun w _=>XJ s.AzimuthError 1 100 w) {} (fun r5 hr5=>Zc 24 [] [(26,.b r5)] {} (Zb rfl (TC.cond r5 rfl Kr (fun h5=>?_) (fun h5=>?_)))))
     ·exact Ze (Zc 1 [] [(2,.i 4)] {} (Zb rfl (TC.ret (Zq (TE.ret [] (.i 4) {} (by unfold Y7;refine eS (fun z=>(.i z:Value)) ?_;subst hr1 hr2 hr3 hr4 hr5;exact Zd h1 (Zd h2 (Zd h3 (Zd h4 (Zk h5 (rfl)))))))))))
     ·exact ZI (Zc 1 [] [(2,.i 0)] {} (Zb rfl (TC.ret (TE.ret [] (.i 0) {} (by unfold Y7;refine eS (fun z=>(.i z:Value)) ?_;subst hr1 hr2 hr3 hr4 hr5;exact Zd h1 (Zd h2 (Zd h3 (Zd h4 (Zd h5 (rfl))))))))))
def Yz (p:Zr):Int :=
 let r1:=ZZ p.Radar 0 255
 cond r1 (
  4) (
  let r2:=ZZ p.Time 0 200000
  cond r2 (
   4) (
   let r3:=ZZ p.Range 0 2000000
   cond r3 (
    4) (
    let r4:=ZZ p.Azimuth 0 4095
    cond r4 (
     4) (
     let r5:=ZZ p.Height 0 60000
     cond r5 (
      4) (
      let r6:=ZZ p.Code (-1) 4095
      cond r6 (
       4) (
       0))))))
theorem U4 (p:Zr) (w:World):Calls Tryz.prog 69 #[Zr.v p] w (Ret w (.int .i64 (Yz p))):=by
 refine Zo (vs:=[Zr.v p]) (w:=w) Tryz.func69 rfl Tryz.ntmps69 rfl (Ze (ZH 1 (fun b1=>.p0 b1) (fun b1=>Bk b1 (Zr.c p) 40) (fun b1=>{}) (fun b1=>Zc 2 [] [(2,.i 0)] {} (Zz (Ze (Zc 2 [0] [(4,.i p.Radar)] {} (TL.c 5 (ZZ p.Radar 0 255) (fun r1=>.b r1) (fun w _=>XJ p.Radar 0 255 w) {} (fun r1 hr1=>Zc 4 [] [(6,.b r1)] {} (Yo 6 r1 Kr (fun h1=>?_) (fun h1=>?_))))))))))
 ·exact Zc 28 [] [(30,.b true)] {} (Zb rfl (Xo rfl Kr (Ze (Zc 1 [] [(2,.i 4)] {} (Zb rfl (TC.ret (Zq (TE.ret [] (.i 4) {} (by unfold Yz;refine eS (fun z=>(.i z:Value)) ?_;subst hr1;exact Zk h1 (rfl))))))))))
 ·refine Zc 6 [0] [(8,.i p.Time)] {} (TL.c 9 (ZZ p.Time 0 200000) (fun r2=>.b r2) (fun w _=>XJ p.Time 0 200000 w) {} (fun r2 hr2=>Zc 9 [] [(11,.b r2)] {} (Yo 11 r2 Kr (fun h2=>?_) (fun h2=>?_))))
  ·exact Zc 28 [] [(30,.b true)] {} (Zb rfl (Xo rfl Kr (Ze (Zc 1 [] [(2,.i 4)] {} (Zb rfl (TC.ret (Zq (TE.ret [] (.i 4) {} (by unfold Yz;refine eS (fun z=>(.i z:Value)) ?_;subst hr1 hr2;exact Zd h1 (Zk h2 (rfl)))))))))))
  ·refine Zc 11 [0] [(13,.i p.Range)] {} (TL.c 14 (ZZ p.Range 0 2000000) (fun r3=>.b r3) (fun w _=>XJ p.Range 0 2000000 w) {} (fun r3 hr3=>Zc 14 [] [(16,.b r3)] {} (Yo 16 r3 Kr (fun h3=>?_) (fun h3=>?_))))
   ·exact Zc 28 [] [(30,.b true)] {} (Zb rfl (Xo rfl Kr (Ze (Zc 1 [] [(2,.i 4)] {} (Zb rfl (TC.ret (Zq (TE.ret [] (.i 4) {} (by unfold Yz;refine eS (fun z=>(.i z:Value)) ?_;subst hr1 hr2 hr3;exact Zd h1 (Zd h2 (Zk h3 (rfl))))))))))))
   ·refine Zc 16 [0] [(18,.i p.Azimuth)] {} (TL.c 19 (ZZ p.Azimuth 0 4095) (fun r4=>.b r4) (fun w _=>XJ p.Azimuth 0 4095 w) {} (fun r4 hr4=>Zc 19 [] [(21,.b r4)] {} (Yo 21 r4 Kr (fun h4=>?_) (fun h4=>?_))))
    ·exact Zc 28 [] [(30,.b true)] {} (Zb rfl (Xo rfl Kr (Ze (Zc 1 [] [(2,.i 4)] {} (Zb rfl (TC.ret (Zq (TE.ret [] (.i 4) {} (by unfold Yz;refine eS (fun z=>(.i z:Value)) ?_;subst hr1 hr2 hr3 hr4;exact Zd h1 (Zd h2 (Zd h3 (Zk h4 (rfl)))))))))))))
    ·refine Zc 21 [0] [(23,.i p.Height)] {} (TL.c 24 (ZZ p.Height 0 60000) (fun r5=>.b r5) (fun w _=>XJ p.Height 0 60000 w) {} (fun r5 hr5=>Zc 24 [] [(26,.b r5)] {} (Yo 26 r5 Kr (fun h5=>?_) (fun h5=>?_))))
     ·exact Zc 28 [] [(30,.b true)] {} (Zb rfl (Xo rfl Kr (Ze (Zc 1 [] [(2,.i 4)] {} (Zb rfl (TC.ret (Zq (TE.ret [] (.i 4) {} (by unfold Yz;refine eS (fun z=>(.i z:Value)) ?_;subst hr1 hr2 hr3 hr4 hr5;exact Zd h1 (Zd h2 (Zd h3 (Zd h4 (Zk h5 (rfl))))))))))))))
     ·refine Zc 26 [0] [(28,.i p.Code)] {} (TL.c 29 (ZZ p.Code (-1) 4095) (fun r6=>.b r6) (fun w _=>XJ p.Code (-1) 4095 w) {} (fun r6 hr6=>Zc 28 [] [(30,.b r6)] {} (Zb rfl (TC.cond r6 rfl Kr (fun h6=>?_) (fun h6=>?_)))))
      ·exact Ze (Zc 1 [] [(2,.i 4)] {} (Zb rfl (TC.ret (Zq (TE.ret [] (.i 4) {} (by unfold Yz;refine eS (fun z=>(.i z:Value)) ?_;subst hr1 hr2 hr3 hr4 hr5 hr6;exact Zd h1 (Zd h2 (Zd h3 (Zd h4 (Zd h5 (Zk h6 (rfl))))))))))))
      ·exact ZI (Zc 1 [] [(2,.i 0)] {} (Zb rfl (TC.ret (TE.ret [] (.i 0) {} (by unfold Yz;refine eS (fun z=>(.i z:Value)) ?_;subst hr1 hr2 hr3 hr4 hr5 hr6;exact Zd h1 (Zd h2 (Zd h3 (Zd h4 (Zd h5 (Zd h6 (rfl)))))))))))
def Jg (s:Zl) (far:Int):Int×Int :=
 let r1:=Y7 s
 cond (r1 != 0) (
  (0,r1)) (
  let r2:=ZZ far 0 2000000
  cond r2 (
   (0,4)) (
   let r3:=Qs (w64 (far*s.AzimuthError)) 651
   let r4:=Qs far 23170
   (w64 ((w64 ((w64 (s.RangeError+r3.1))+r4.1))+2),0)))
theorem DU (s:Zl) (far:Int) (w:World):Calls Tryz.prog 71 #[Zl.v s,.int .i64 far] w (Ret w (.tuple #[.int .i64 ((Jg s far).1),.int .i64 ((Jg s far).2)])):=by
 refine Zo (vs:=[Zl.v s,.i far]) (w:=w) Tryz.func71 rfl Tryz.ntmps71 rfl (Ze (ZH 2 (fun b1=>.p0 b1) (fun b1=>Bk b1 (Zl.c s) 34) (fun b1=>{}) (fun b1=>Zc 3 [] [(4,.i 0),(5,.i 0)] {} (Zz (Ze (Zc 1 [0] [(11,Zl.v s)] {} (TL.c 12 (Y7 s) (fun r1=>.i r1) (fun w _=>V3 s w) {} (fun r1 hr1=>Zc 3 [] [(6,.i r1)] {} (Zv (Zc 2 [] [(14,.b (r1 != 0))] {} (Zb rfl (TC.cond (r1 != 0) rfl Kr (fun h1=>?_) (fun h1=>?_)))))))))))))
 ·exact Ze (Zc 3 [] [(4,.i 0),(5,.i r1)] {} (Zb rfl (TC.ret (Zq (TE.ret [] (.tuple #[.i 0,.i r1]) {} (by unfold Jg;refine eS (a:=(0,r1)) (fun (z:Int×Int)=>(.tuple #[.i z.1,.i z.2]:Value)) ?_;subst hr1;exact Zk h1 (rfl)))))))
 ·refine Yg (TC.seq (Ze (Zc 1 [] [(16,.i far)] {} (TL.c 17 (ZZ far 0 2000000) (fun r2=>.b r2) (fun w _=>XJ far 0 2000000 w) {} (fun r2 hr2=>Zb rfl (TC.cond r2 rfl Kr (fun h2=>?_) (fun h2=>?_)))))))
  ·exact Ze (Zc 2 [] [(4,.i 0),(5,.i 4)] {} (Zb rfl (TC.ret (Zq (TE.ret [] (.tuple #[.i 0,.i 4]) {} (by unfold Jg;refine eS (a:=(0,4)) (fun (z:Int×Int)=>(.tuple #[.i z.1,.i z.2]:Value)) ?_;subst hr1 hr2;exact Zd h1 (Zk h2 (rfl))))))))
  ·exact ZI (Zc 4 [0] [(22,.i (w64 (far*s.AzimuthError)))] {} (TL.c 23 (Qs (w64 (far*s.AzimuthError)) 651) (fun r3=>.tuple #[.i r3.1,.i r3.2]) (fun w _=>VB (w64 (far*s.AzimuthError)) 651 w) {} (fun r3 hr3=>Zc 10 [] [(7,.i r3.1)] {} (Zv (Zc 1 [] [(27,.i far)] {} (TL.c 28 (Qs far 23170) (fun r4=>.tuple #[.i r4.1,.i r4.2]) (fun w _=>VB far 23170 w) {} (fun r4 hr4=>Zc 7 [] [(9,.i r4.1)] {} (Zv (Zc 9 [0] [(4,.i (w64 ((w64 ((w64 (s.RangeError+r3.1))+r4.1))+2))),(5,.i 0)] {} (Zb rfl (TC.ret (TE.ret [] (.tuple #[.i (w64 ((w64 ((w64 (s.RangeError+r3.1))+r4.1))+2)),.i 0]) {} (by unfold Jg;refine eS (a:=(w64 ((w64 ((w64 (s.RangeError+r3.1))+r4.1))+2),0)) (fun (z:Int×Int)=>(.tuple #[.i z.1,.i z.2]:Value)) ?_;subst hr1 hr2 hr3 hr4;exact Zd h1 (Zd h2 (rfl)))))))))))))))
def ZU (s:Zl) (p:Zr):Zm×Int :=
 let r1:=Y7 s
 cond (r1 != 0) (
  ((⟨0,⟨0,0⟩,0,0,0⟩:Zm),r1)) (
  let r2:=Yz p
  cond (r2 != 0) (
   ((⟨0,⟨0,0⟩,0,0,0⟩:Zm),r2)) (
   cond (p.Radar != s.ID) (
    ((⟨0,⟨0,0⟩,0,0,0⟩:Zm),1)) (
    let r3:=Jz p.Azimuth p.Range
    let r4:=Jg s p.Range
    let r5:=JE s.At r3.1
    let r6:=Xg r5
    cond ((r6 != 0)||(decide (r4.1>1000000))) (
     ((⟨0,⟨0,0⟩,0,0,0⟩:Zm),8)) (
     ((⟨p.Time,r5,p.Height,p.Code,r4.1⟩:Zm),0)))))
set_option maxHeartbeats 4000000 in
theorem N5 (s:Zl) (p:Zr) (w:World) (hT:W4 w):Calls Tryz.prog 34 #[Zl.v s,Zr.v p] w (Ret w (.tuple #[Zm.v ((ZU s p).1),.int .i64 ((ZU s p).2)])):=by
 refine Zo (vs:=[Zl.v s,Zr.v p]) (w:=w) Tryz.func34 rfl Tryz.ntmps34 rfl (Ze (ZH 2 (fun b1=>.p0 b1) (fun b1=>Bk b1 (Zl.c s) 34) (fun b1=>{}) (fun b1=>ZH 3 (fun b2=>.p0 b2) (fun b2=>Bk b2 (Zr.c p) 40) (fun b2=>{}) (fun b2=>ZH 4 (fun b3=>.p0 b3) (fun b3=>Bk b3 (Zm.c Zm.zero) 46) (fun b3=>{}) (fun b3=>Zc 4 [] [(5,.i 0)] {} (Zz (Ze (Zc 1 [2] [(13,Zl.v s)] {} (TL.c 14 (Y7 s) (fun r1=>.i r1) (fun w _=>V3 s w) {} (fun r1 hr1=>Zc 3 [] [(6,.i r1)] {} (Zv (Zc 2 [] [(16,.b (r1 != 0))] {} (Zb rfl (TC.cond (r1 != 0) rfl Kr (fun h1=>?_) (fun h1=>?_)))))))))))))))
 ·exact Ze (Zc 2 [] [(17,Zm.v Zm.zero),(18,.i r1)] {} (Ym 0 (Bk b3 (Zm.c Zm.zero) 46) (fun _=>{}) (Zc 4 [] [(5,.i r1)] {} (Zb rfl (TC.ret (Zq (TE.ret [0] (.tuple #[Zm.v (⟨0,⟨0,0⟩,0,0,0⟩:Zm),.i r1]) {} (by unfold ZU;refine eS (a:=((⟨0,⟨0,0⟩,0,0,0⟩:Zm),r1)) (fun (z:Zm×Int)=>(.tuple #[Zm.v z.1,.i z.2]:Value)) ?_;subst hr1;exact Zk h1 (rfl)))))))))
 ·refine Yg (TC.seq (Ze (Zc 1 [1] [(19,Zr.v p)] {} (TL.c 20 (Yz p) (fun r2=>.i r2) (fun w _=>U4 p w) {} (fun r2 hr2=>Zc 3 [] [(7,.i r2)] {} (Zv (Zc 2 [] [(22,.b (r2 != 0))] {} (Zb rfl (TC.cond (r2 != 0) rfl Kr (fun h2=>?_) (fun h2=>?_))))))))))
  ·exact Ze (Zc 2 [] [(23,Zm.v Zm.zero),(24,.i r2)] {} (Ym 0 (Bk b3 (Zm.c Zm.zero) 46) (fun _=>{}) (Zc 4 [] [(5,.i r2)] {} (Zb rfl (TC.ret (Zq (TE.ret [0] (.tuple #[Zm.v (⟨0,⟨0,0⟩,0,0,0⟩:Zm),.i r2]) {} (by unfold ZU;refine eS (a:=((⟨0,⟨0,0⟩,0,0,0⟩:Zm),r2)) (fun (z:Zm×Int)=>(.tuple #[Zm.v z.1,.i z.2]:Value)) ?_;subst hr1 hr2;exact Zd h1 (Zk h2 (rfl))))))))))
  ·refine Yg (TC.seq (Ze (Zc 5 [1,2] [(29,.b (p.Radar != s.ID))] {} (Zb rfl (TC.cond (p.Radar != s.ID) rfl Kr (fun h3=>?_) (fun h3=>?_))))))
   ·exact Ze (Zc 1 [] [(30,Zm.v Zm.zero)] {} (Ym 0 (Bk b3 (Zm.c Zm.zero) 46) (fun _=>{}) (Zc 3 [] [(5,.i 1)] {} (Zb rfl (TC.ret (Zq (TE.ret [0] (.tuple #[Zm.v (⟨0,⟨0,0⟩,0,0,0⟩:Zm),.i 1]) {} (by unfold ZU;refine eS (a:=((⟨0,⟨0,0⟩,0,0,0⟩:Zm),1)) (fun (z:Zm×Int)=>(.tuple #[Zm.v z.1,.i z.2]:Value)) ?_;subst hr1 hr2;exact Zd h1 (Zd h2 (Zk h3 (rfl)))))))))))
   ·refine ZI (Zc 4 [1,1] [(33,.i p.Azimuth),(35,.i p.Range)] {} (TL.c 36 (Jz p.Azimuth p.Range) (fun r3=>.tuple #[P.v r3.1,.i r3.2]) (fun w hM=>Df p.Azimuth p.Range w (hT.sat hM)) {} (fun r3 hr3=>Zc 8 [] [(37,P.v r3.1),(38,.i r3.2)] {} (ZH 8 (fun b4=>.p0 b4) (fun b4=>Bk b4 (P.c P.zero) 32) (fun b4=>{}) (fun b4=>Ym 0 (Bk b4 (P.c r3.1) 32) (fun _=>{}) (Zc 11 [] [] {} (Zv (Zc 3 [3,2] [(40,Zl.v s),(42,.i p.Range)] {} (TL.c 43 (Jg s p.Range) (fun r4=>.tuple #[.i r4.1,.i r4.2]) (fun w _=>DU s p.Range w) {} (fun r4 hr4=>Zc 9 [] [(10,.i r4.1)] {} (Zz ?_)))))))))))
    obtain⟨r5,hr5⟩:∃ r,JE s.At r3.1=r:=⟨_,rfl⟩
    let Mr11_:Mem:=[Bk b4 (P.c r3.1) 32,Bk b3 (Zm.c Zm.zero) 46,Bk b2 (Zr.c p) 40,Bk b1 (Zl.c s) 34]
    refine Jt (G:=Nat) (base:=[(2,.p0 b1),(3,.p0 b2),(4,.p0 b3),(8,.p0 b4),(10,.i r4.1)]) (vals:=fun γ=>[.pt b2 1,.i p.Time,.pt b1 1,P.v s.At,P.v r3.1,P.v r5,.pt b2 4,.i p.Height,.pt b2 5,.i p.Code,.i r4.1,Zm.v (⟨p.Time,r5,p.Height,p.Code,r4.1⟩:Zm),.p0 γ,undef]) (writes:=[12,13]) (mem:=fun bs γ=>match bs with | [uh,x13_]=>(bif x13_ then [Bk γ (Zm.c (⟨p.Time,r5,p.Height,p.Code,r4.1⟩:Zm)) 46] else bif uh then [Bk γ (Zm.c Zm.zero) 46] else [])++(Mr11_)|_=>[]) (0) (fun γ=>[(4,.p0 b3),(10,.i r4.1),(12,.p0 γ)]) Kr Kr Kr Kr Kr (fun γ=>Kr) (fun _ hM=>hM) (fun γ=>Kr) ?_ ?_
    ·skip
     exact Steps.run (i:=0) 5 [0,2,0,3,0] Mr11_ Kr Kr (fun S (γ:Nat) w hM=>by rw[mS2 rfl rfl] at hM;exact hM.sub (Zh (aA _))) Kr (fun (γ:Nat)=>{}) (Steps.call (i:=5) 72 (fun (γ:Nat)=>#[P.v s.At,P.v r3.1]) (some 51) (fun (γ:Nat)=>P.v r5) (fun (γ:Nat)=>[Bk b4 (P.c r3.1) 32,Bk b3 (Zm.c Zm.zero) 46,Bk b2 (Zr.c p) 40,Bk b1 (Zl.c s) 34]) Kr (fun S (γ:Nat) w _ hM=>by rw[mS2 rfl rfl] at hM;exact hM.sub (Zh (aA _))) (fun (γ:Nat) w _=>by have h:=HT s.At r3.1 w;rw[hr5] at h;exact h) (fun (γ:Nat)=>Kr) (fun (γ:Nat)=>Kr) (Steps.run (i:=6) 12 [0,2,0,2,0,0] Mr11_ Kr Kr (fun S (γ:Nat) w hM=>by rw[mS2 rfl rfl] at hM;exact hM.sub (Zh (aA _))) Kr (fun (γ:Nat)=>{}) (Steps.op (i:=12) (Γ:=Nat) (fun g (γ:Nat)=>g) (fun _=>[]) (fun b (γ:Nat)=>[Bk b (Zm.c Zm.zero) 46]) (fun S (γ:Nat)=>Mr11_) [12,13] (fun (γ:Nat)=>sV (Instr.alloc 46 true (.tuple #[]))) (some 12) (fun b (γ:Nat)=>.p0 b) (fun S (γ:Nat) hj hd hl=>by rw[mS2 hj (hl 13 Kr)];exact aC _) (fun S (γ:Nat) g hl=>by rw[mS2 (S:=upS S 12) (a0:=12) (a1:=13) rfl (hl 13 Kr)];exact(aC _).symm) (fun (γ:Nat) M' w hM=>Jd (v:=fun b=>.p0 b) (fun b M=>Kr) M' w hM) (fun (γ:Nat)=>Kr) (fun (γ:Nat) g=>Kr) Kr (fun (γ:Nat) g=>Kr) (Steps.put (i:=13) (fun (γ:Nat)=>[Bk γ (Zm.c Zm.zero) 46]) (fun (γ:Nat)=>[Bk γ (Zm.c (⟨p.Time,r5,p.Height,p.Code,r4.1⟩:Zm)) 46]) (fun S (γ:Nat)=>Mr11_) (fun (γ:Nat)=>sU (Instr.storeAt 46 (.p0 γ) (Zm.v (⟨p.Time,r5,p.Height,p.Code,r4.1⟩:Zm)))) none (fun S (γ:Nat) hj hd hl=>by rw[mS2 (hd 12 Kr) hj];exact aC _) (fun S (γ:Nat) _=>(aC _).symm) (fun (γ:Nat) M' w hM=>JJ (fun b M=>Kr) (fun b M=>Kr) M' w hM) (fun (γ:Nat)=>Kr) (fun (γ:Nat)=>Kr) (XH Kr)))))
    ·rintro b5
     refine Yp [Bk b5 (Zm.c (⟨p.Time,r5,p.Height,p.Code,r4.1⟩:Zm)) 46,Bk b4 (P.c r3.1) 32,Bk b3 (Zm.c Zm.zero) 46,Bk b2 (Zr.c p) 40,Bk b1 (Zl.c s) 34] (fun _ hM=>hM) (Z4 (TC.seq (Ze (Zc 2 [0] [(59,P.v r5)] {} (TL.c 60 (Xg r5) (fun r6=>.i r6) (fun w _=>UD r5 w) {} (fun r6 hr6=>Zc 5 [] [(62,.b (r6 != 0))] {} (XT 62 (r6 != 0) 8 [] [] (fun β=>[(65,.b (β||(decide (r4.1>1000000))))]) Kr {} {} (Zb rfl (TC.cond ((r6 != 0)||(decide (r4.1>1000000))) rfl Kr (fun h4=>?_) (fun h4=>?_))))))))))
     ·exact Ze (Zc 1 [] [(66,Zm.v Zm.zero)] {} (Ym 2 (Bk b3 (Zm.c Zm.zero) 46) (fun _=>{}) (Zc 3 [] [(5,.i 8)] {} (Zb rfl (TC.ret (Zq (TE.ret [2] (.tuple #[Zm.v (⟨0,⟨0,0⟩,0,0,0⟩:Zm),.i 8]) {} (by unfold ZU;refine eS (a:=((⟨0,⟨0,0⟩,0,0,0⟩:Zm),8)) (fun (z:Zm×Int)=>(.tuple #[Zm.v z.1,.i z.2]:Value)) ?_;subst hr1 hr2 hr3 hr4 hr5 hr6;exact Zd h1 (Zd h2 (Zd h3 (Zk h4 (rfl))))))))))))
     ·exact ZI (Zc 1 [0] [(67,Zm.v (⟨p.Time,r5,p.Height,p.Code,r4.1⟩:Zm))] {} (Ym 2 (Bk b3 (Zm.c (⟨p.Time,r5,p.Height,p.Code,r4.1⟩:Zm)) 46) (fun _=>{}) (Zc 3 [] [(5,.i 0)] {} (Zb rfl (TC.ret (TE.ret [2] (.tuple #[Zm.v (⟨p.Time,r5,p.Height,p.Code,r4.1⟩:Zm),.i 0]) {} (by unfold ZU;refine eS (a:=((⟨p.Time,r5,p.Height,p.Code,r4.1⟩:Zm),0)) (fun (z:Zm×Int)=>(.tuple #[Zm.v z.1,.i z.2]:Value)) ?_;subst hr1 hr2 hr3 hr4 hr5 hr6;exact Zd h1 (Zd h2 (Zd h3 (Zd h4 (rfl)))))))))))
def Z8 (s:Zl) (t:Zm):Zr×Int :=
 let r1:=Y7 s
 cond (r1 != 0) (
  ((⟨0,0,0,0,0,0⟩:Zr),r1)) (
  let r2:=ZD t
  cond (r2 != 0) (
   ((⟨0,0,0,0,0,0⟩:Zr),r2)) (
   let r3:=Y3 s.At t.At s.Reach
   cond (!r3) (
    ((⟨0,0,0,0,0,0⟩:Zr),8)) (
    let r4:=QO s.At t.At
    cond (!(P.eqb s.At t.At)) (
     let r5:=Ju t.At s.At
     let r6:=(ofF r5).1
     ((⟨s.ID,t.Time,r4.1,r6,t.Height,t.Code⟩:Zr),0)) (
     ((⟨s.ID,t.Time,r4.1,0,t.Height,t.Code⟩:Zr),0)))))
set_option maxHeartbeats 4000000 in
theorem N6 (s:Zl) (t:Zm) (w:World) (hT:W4 w):Calls Tryz.prog 8 #[Zl.v s,Zm.v t] w (Ret w (.tuple #[Zr.v ((Z8 s t).1),.int .i64 ((Z8 s t).2)])):=by
 refine Zo (vs:=[Zl.v s,Zm.v t]) (w:=w) Tryz.func8 rfl Tryz.ntmps8 rfl (Ze (ZH 2 (fun b1=>.p0 b1) (fun b1=>Bk b1 (Zl.c s) 34) (fun b1=>{}) (fun b1=>ZH 3 (fun b2=>.p0 b2) (fun b2=>Bk b2 (Zm.c t) 46) (fun b2=>{}) (fun b2=>ZH 4 (fun b3=>.p0 b3) (fun b3=>Bk b3 (Zr.c Zr.zero) 40) (fun b3=>{}) (fun b3=>Zc 4 [] [(5,.i 0)] {} (Zz (Ze (Zc 1 [2] [(11,Zl.v s)] {} (TL.c 12 (Y7 s) (fun r1=>.i r1) (fun w _=>V3 s w) {} (fun r1 hr1=>Zc 3 [] [(6,.i r1)] {} (Zv (Zc 2 [] [(14,.b (r1 != 0))] {} (Zb rfl (TC.cond (r1 != 0) rfl Kr (fun h1=>?_) (fun h1=>?_)))))))))))))))
 ·exact Ze (Zc 2 [] [(15,Zr.v Zr.zero),(16,.i r1)] {} (Ym 0 (Bk b3 (Zr.c Zr.zero) 40) (fun _=>{}) (Zc 4 [] [(5,.i r1)] {} (Zb rfl (TC.ret (Zq (TE.ret [0] (.tuple #[Zr.v (⟨0,0,0,0,0,0⟩:Zr),.i r1]) {} (by unfold Z8;refine eS (a:=((⟨0,0,0,0,0,0⟩:Zr),r1)) (fun (z:Zr×Int)=>(.tuple #[Zr.v z.1,.i z.2]:Value)) ?_;subst hr1;exact Zk h1 (rfl)))))))))
 ·refine Yg (TC.seq (Ze (Zc 1 [1] [(17,Zm.v t)] {} (TL.c 18 (ZD t) (fun r2=>.i r2) (fun w _=>Qc t w) {} (fun r2 hr2=>Zc 3 [] [(7,.i r2)] {} (Zv (Zc 2 [] [(20,.b (r2 != 0))] {} (Zb rfl (TC.cond (r2 != 0) rfl Kr (fun h2=>?_) (fun h2=>?_))))))))))
  ·exact Ze (Zc 2 [] [(21,Zr.v Zr.zero),(22,.i r2)] {} (Ym 0 (Bk b3 (Zr.c Zr.zero) 40) (fun _=>{}) (Zc 4 [] [(5,.i r2)] {} (Zb rfl (TC.ret (Zq (TE.ret [0] (.tuple #[Zr.v (⟨0,0,0,0,0,0⟩:Zr),.i r2]) {} (by unfold Z8;refine eS (a:=((⟨0,0,0,0,0,0⟩:Zr),r2)) (fun (z:Zr×Int)=>(.tuple #[Zr.v z.1,.i z.2]:Value)) ?_;subst hr1 hr2;exact Zd h1 (Zk h2 (rfl))))))))))
  ·refine Yg (TC.seq (Ze (Zc 6 [2,1,2] [(24,P.v s.At),(26,P.v t.At),(28,.i s.Reach)] {} (TL.c 29 (Y3 s.At t.At s.Reach) (fun r3=>.b r3) (fun w _=>Kw s.At t.At s.Reach w) {} (fun r3 hr3=>Zc 8 [] [(30,.b (!r3))] {} (Zb rfl (TC.cond (!r3) rfl Kr (fun h3=>?_) (fun h3=>?_))))))))
   ·exact Ze (Zc 1 [] [(31,Zr.v Zr.zero)] {} (Ym 0 (Bk b3 (Zr.c Zr.zero) 40) (fun _=>{}) (Zc 3 [] [(5,.i 8)] {} (Zb rfl (TC.ret (Zq (TE.ret [0] (.tuple #[Zr.v (⟨0,0,0,0,0,0⟩:Zr),.i 8]) {} (by unfold Z8;refine eS (a:=((⟨0,0,0,0,0,0⟩:Zr),8)) (fun (z:Zr×Int)=>(.tuple #[Zr.v z.1,.i z.2]:Value)) ?_;subst hr1 hr2 hr3;exact Zd h1 (Zd h2 (Zk h3 (rfl)))))))))))
   ·refine ZI (Zc 4 [2,1] [(34,P.v s.At),(36,P.v t.At)] {} (TL.c 37 (QO s.At t.At) (fun r4=>.tuple #[.i r4.1,.i r4.2]) (fun w _=>HB s.At t.At w) {} (fun r4 hr4=>Zc 10 [] [(8,.i r4.1)] {} (Zv (Zc 10 [2,1,1,1] [(49,Zr.v (⟨s.ID,t.Time,r4.1,0,t.Height,t.Code⟩:Zr))] {} (ZH 10 (fun b4=>.p0 b4) (fun b4=>Bk b4 (Zr.c Zr.zero) 40) (fun b4=>{}) (fun b4=>Ym 0 (Bk b4 (Zr.c (⟨s.ID,t.Time,r4.1,0,t.Height,t.Code⟩:Zr)) 40) (fun _=>{}) (Zz (Ze (Zc 4 [3,2] [(51,P.v s.At),(53,P.v t.At)] {} (TL.v (sV (do eqGuard .neq 32 (.tmp 51) (.tmp 53) (P.v s.At) (P.v t.At);binOp .neq 32 (P.v s.At) (P.v t.At))) 54 (.b (!(P.eqb s.At t.At))) (fun w hM=>C9 (b:=P.eqb s.At t.At) Kr Kr w) {} (Zb rfl (TC.cond (!(P.eqb s.At t.At)) rfl Kr (fun h4=>?_) (fun h4=>?_))))))))))))))
    ·refine TC.region (Zc 4 [2,3] [(57,P.v t.At),(59,P.v s.At)] {} (TL.c 60 (Ju t.At s.At) (fun r5=>P.v r5) (fun w _=>HS t.At s.At w) {} (fun r5 hr5=>Xx (Γ:=Int×Int) (fun g=>.tuple #[.i g.1,.i g.2]) (fun g=>[.inr (XG (g.1=(ofF r5).1∧g.2=(ofF r5).2))]) [] [Bk b4 (Zr.c (⟨s.ID,t.Time,r4.1,0,t.Height,t.Code⟩:Zr)) 40,Bk b3 (Zr.c Zr.zero) 40,Bk b2 (Zm.c t) 46,Bk b1 (Zl.c s) 34] (some 61) (fun g=>[(4,.p0 b3),(10,.p0 b4),(61,.tuple #[.i g.1,.i g.2])]) (fun w hM=>RB r5 w hM.pass (hT.sat hM)) Kr (fun g=>Kr) ?_)))
     rintro⟨r6,r7⟩
     refine YS [.inr (XG (r6=(ofF r5).1∧r7=(ofF r5).2)),Bk b4 (Zr.c (⟨s.ID,t.Time,r4.1,0,t.Height,t.Code⟩:Zr)) 40,Bk b3 (Zr.c Zr.zero) 40,Bk b2 (Zm.c t) 46,Bk b1 (Zl.c s) 34] (fun _ hM=>hM) (Y2 (fun w hM=>hM.fact_at 0 rfl) (fun yj=>YK [Bk b4 (Zr.c (⟨s.ID,t.Time,r4.1,0,t.Height,t.Code⟩:Zr)) 40,Bk b3 (Zr.c Zr.zero) 40,Bk b2 (Zm.c t) 46,Bk b1 (Zl.c s) 34] (.cons _ (aA _)) ?_))
     have hr6:(ofF r5).1=r6:=(yj.1).symm
     have hr7:(ofF r5).2=r7:=(yj.2).symm
     exact Zc 10 [] [(62,.i r6),(64,.pt b4 3)] {} (Ym 0 (Bk b4 (Zr.c (⟨s.ID,t.Time,r4.1,r6,t.Height,t.Code⟩:Zr)) 40) (fun _=>{}) (Zv (Zc 1 [0] [(65,Zr.v (⟨s.ID,t.Time,r4.1,r6,t.Height,t.Code⟩:Zr))] {} (Ym 1 (Bk b3 (Zr.c (⟨s.ID,t.Time,r4.1,r6,t.Height,t.Code⟩:Zr)) 40) (fun _=>{}) (Zc 3 [] [(5,.i 0)] {} (Zb rfl (TC.ret (TE.ret [1] (.tuple #[Zr.v (⟨s.ID,t.Time,r4.1,r6,t.Height,t.Code⟩:Zr),.i 0]) {} (by unfold Z8;refine eS (a:=((⟨s.ID,t.Time,r4.1,r6,t.Height,t.Code⟩:Zr),0)) (fun (z:Zr×Int)=>(.tuple #[Zr.v z.1,.i z.2]:Value)) ?_;subst hr1 hr2 hr3 hr4 hr5 hr6 hr7;exact Zd h1 (Zd h2 (Zd h3 (Zk h4 (rfl)))))))))))))
    ·exact ZI (Zc 1 [0] [(65,Zr.v (⟨s.ID,t.Time,r4.1,0,t.Height,t.Code⟩:Zr))] {} (Ym 1 (Bk b3 (Zr.c (⟨s.ID,t.Time,r4.1,0,t.Height,t.Code⟩:Zr)) 40) (fun _=>{}) (Zc 3 [] [(5,.i 0)] {} (Zb rfl (TC.ret (TE.ret [1] (.tuple #[Zr.v (⟨s.ID,t.Time,r4.1,0,t.Height,t.Code⟩:Zr),.i 0]) {} (by unfold Z8;refine eS (a:=((⟨s.ID,t.Time,r4.1,0,t.Height,t.Code⟩:Zr),0)) (fun (z:Zr×Int)=>(.tuple #[Zr.v z.1,.i z.2]:Value)) ?_;subst hr1 hr2 hr3 hr4;exact Zd h1 (Zd h2 (Zd h3 (Zd h4 (rfl)))))))))))
end Go.Sky
end
section
namespace Go.Eng
section
variable {G:Type} {P:Program} {n:Nat} {w0:Ctx} {ops:Array Oper} {base:ZJ} {vals:G→List Value} {writes:List Nat} {mem:List Bool→G→Mem}
end
end Go.Eng
namespace Go.Eng
section
variable {G:Type} {P:Program} {n:Nat} {w0:Ctx} {ops:Array Oper} {base:ZJ} {vals:G→List Value} {writes:List Nat} {mem:List Bool→G→Mem}
theorem Vz {Γ:Type} (set:Γ→G→G) (E:G→Mem) (E':Γ→G→Mem) (X:(Nat→Bool)→G→Mem) (D:List Nat) (s:G→Sem Next) (d:Option Tmp) (v:Γ→G→Value) {i:Nat}
  (ff:∀ S γ,S i=false→(∀ e:Nat,(QB ops.toList i).contains e=true→S e=true)→(∀ k:Nat,(QB ops.toList k).contains i=true→S k=false)→(mem (writes.map S) γ).Perm (E γ++X S γ))
  (yq:∀ S γ g,S i=false→(∀ e:Nat,(QB ops.toList i).contains e=true→S e=true)→(∀ k:Nat,(QB ops.toList k).contains i=true→S k=false)→(E' g γ++X S γ).Perm (mem (writes.map (upS S i)) (set g γ)))
  (hv:∀ γ M' w,Sat w0 (E γ++M') w→∃ g w',(s γ).run P w=.ok (.value (v g γ)) w'∧Sat w0 (E' g γ++M') w')
  (hs:∀ γ,semAt ops.toList (UX ops.toList base (vals γ)) i=some (s γ,d)) (ju:∀ γ g,(vals (set g γ))[i]?=some (v g γ))
  (hD:SR ops.toList i D=true) (pd:∀ γ g,UH D 0 (vals (set g γ))=UH D 0 (vals γ))
  (h:Steps P w0 ops base vals writes mem (ops.toList.drop (i+1)) (i+1)):Steps P w0 ops base vals writes mem (ops.toList.drop i) i:=by
 refine J9 (fun o ho S γ w hSi hd hc hMw=>?_) h
 obtain⟨o',h1,h2,h3,h4⟩:=Vp (hs γ)
 rw[ho] at h1
 simp only[aD] at h1
 subst h1
 have hd':∀ e:Nat,(QB ops.toList i).contains e=true→S e=true:=fun e he=>hd e (by unfold QB at he;rw[ho] at he;simpa using he)
 rw[h2]
 simp only
 unfold UC
 obtain⟨g,w',hr,hM'⟩:=hv γ _ w (hMw.perm (ff S γ hSi hd' (UI hSi hc)))
 rw[h3,hr]
 exact⟨set g γ,agree hD hSi hc (pd γ g),ju γ g,hM'.perm (yq S γ g hSi hd' (UI hSi hc))⟩
end
end Go.Eng
namespace Go.Eng
section
variable {P:Program} {ops hd:Array Oper} {Q:Exit→Act→World→Prop} {N:Nat}
end
section
variable {G:Type} {P:Program} {n:Nat} {w0:Ctx} {ops:Array Oper} {base:ZJ} {vals:G→List Value} {writes:List Nat} {mem:List Bool→G→Mem}
end
end Go.Eng
end
