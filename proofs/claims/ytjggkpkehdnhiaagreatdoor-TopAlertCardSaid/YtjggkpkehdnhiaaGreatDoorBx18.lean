/- Lemmas toward the given statement (part 18 of 20): Dir TabAll Gu Gf OfB Gv Gw Wr RadT Rad. Each theorem states its own conditions; nothing is assumed beyond them. -/
import Derived.Test.YtjggkpkehdnhiaaGreatDoorBx13
import Derived.Test.YtjggkpkehdnhiaaGreatDoorBx14
import Derived.Test.YtjggkpkehdnhiaaGreatDoorBx15
import Derived.Test.YtjggkpkehdnhiaaGreatDoorBx16
import Derived.Test.YtjggkpkehdnhiaaGreatDoorBx17
import Derived.Test.YtjggkpkehdnhiaaGreatDoorBx03
section
namespace Go.Sky
open Go Go.Eng
def HD (a:Nat):Nat→Bool
 | 0=>true
 | n+1=>(decide (YZ a≤16384)&&decide (0<YZ (1024-a))&&decide (YZ a*YZ (1024-(a+1))<YZ (1024-a)*YZ (a+1)))&&HD (a+1) n
theorem N3 (a n:Nat):HD a (n+1)=((decide (YZ a≤16384)&&decide (0<YZ (1024-a))&&decide (YZ a*YZ (1024-(a+1))<YZ (1024-a)*YZ (a+1)))&&HD (a+1) n):=rfl
theorem GY (n:Nat):∀ a,HD a n=true→∀ k,a≤k→k<a+n→YZ k≤16384∧0<YZ (1024-k)∧YZ k*YZ (1024-(k+1))<YZ (1024-k)*YZ (k+1):=by
 induction n with
 | zero=>intro a _ k h1 h2;omega
 | succ n ih =>
  intro a h k h1 h2
  rw[N3,Bool.and_eq_true,Bool.and_eq_true,Bool.and_eq_true] at h
  by_cases he:a=k
  ·rw[← he];exact⟨of_decide_eq_true h.1.1.1,of_decide_eq_true h.1.1.2,of_decide_eq_true h.1.2⟩
  ·exact ih (a+1) h.2 k (by omega) (by omega)
set_option maxRecDepth 100000 in
theorem GZ:HD 0 1024=true:=by kernel_rfl
theorem G3:YZ 0=0:=by kernel_rfl
theorem HE:YZ 1024=16384:=by kernel_rfl
theorem G4 {k:Nat} (h:k≤1024):YZ k≤16384:=by
 by_cases he:k=1024
 ·subst he;rw[HE];decide
 ·exact(GY 1024 0 GZ k (by omega) (by omega)).1
theorem Wa {k:Nat} (h:k<1024):0<YZ (1024-k):=(GY 1024 0 GZ k (by omega) (by omega)).2.1
theorem HF {k:Nat} (h:k<1024):YZ k*YZ (1024-(k+1))<YZ (1024-k)*YZ (k+1):=(GY 1024 0 GZ k (by omega) (by omega)).2.2
theorem MR {n:Nat} (h:n≤1024):VU n=(YZ n:Int):=by unfold VU;rw[Nat.ble_eq_true_of_le h];rfl
theorem BD {a b:Nat} (h:b<a):Nat.ble a b=false:=by
 cases hb:Nat.ble a b with
 | false=>rfl
 | true=>have:=Nat.le_of_ble_eq_true hb;omega
theorem RN {n:Nat} (h1:1024<n) (h:n≤2048):VU n=(YZ (2048-n):Int):=by unfold VU;rw[BD h1,Nat.ble_eq_true_of_le h];rfl
theorem OK {n:Nat} (h1:2048<n) (h:n≤3072):VU n=-(YZ (n-2048):Int):=by unfold VU;rw[BD (show 1024<n by omega),BD h1,Nat.ble_eq_true_of_le h];rfl
theorem OL {n:Nat} (h1:3072<n):VU n=-(YZ (4096-n):Int):=by unfold VU;rw[BD (show 1024<n by omega),BD (show 2048<n by omega),BD h1];rfl
theorem MS {n:Nat} (h:n<4096):-16384≤VU n∧VU n≤16384:=by
 by_cases c1:n≤1024
 ·rw[MR c1];have:=G4 c1;omega
 by_cases c2:n≤2048
 ·rw[RN (by omega) c2];have:=G4 (show 2048-n≤1024 by omega);omega
 by_cases c3:n≤3072
 ·rw[OK (by omega) c3];have:=G4 (show n-2048≤1024 by omega);omega
 ·rw[OL (by omega)];have:=G4 (show 4096-n≤1024 by omega);omega
theorem TX {n:Nat} (h:n<4096):VU ((n+2048)%4096)=-VU n:=by
 by_cases c0:n=0
 ·subst c0;rw[show (0+2048)%4096=2048 from rfl,RN (n:=2048) (by decide) (by decide),MR (n:=0) (by decide),show 2048-2048=0 from rfl,G3];rfl
 by_cases c1:n≤1024
 ·rw[show (n+2048)%4096=n+2048 by omega,OK (by omega) (by omega),MR c1,show n+2048-2048=n by omega]
 by_cases c2:n≤2048
 ·by_cases c:n=2048
  ·subst c;rw[show (2048+2048)%4096=0 from rfl,RN (n:=2048) (by decide) (by decide),MR (n:=0) (by decide),show 2048-2048=0 from rfl,G3];rfl
  ·rw[show (n+2048)%4096=n+2048 by omega,OL (by omega),RN (by omega) c2,show 4096-(n+2048)=2048-n by omega]
 by_cases c3:n≤3072
 ·rw[show (n+2048)%4096=n-2048 by omega,MR (by omega),OK (by omega) c3];omega
 ·rw[show (n+2048)%4096=n-2048 by omega,RN (by omega) (by omega),OL (by omega),show 2048-(n-2048)=4096-n by omega];omega
def sn (k:Nat):Int:=VU (k%4096)
def cs (k:Nat):Int:=VU ((k+1024)%4096)
theorem BE (k:Nat):-16384≤sn k∧sn k≤16384:=MS (Nat.mod_lt _ (by decide))
theorem BF (k:Nat):-16384≤cs k∧cs k≤16384:=MS (Nat.mod_lt _ (by decide))
theorem VM (k:Nat):sn (k+1024)=cs k:=rfl
theorem VN (k:Nat):cs (k+1024)=-sn k:=by
 unfold cs sn
 rw[show (k+1024+1024)%4096=(k%4096+2048)%4096 by omega]
 exact TX (Nat.mod_lt _ (by decide))
theorem G5 (k:Nat):sn (k%4096)=sn k:=by unfold sn;rw[Nat.mod_mod]
theorem G6 (k:Nat):cs (k%4096)=cs k:=by unfold cs;rw[show (k%4096+1024)%4096=(k+1024)%4096 by omega]
theorem MU {k:Nat} (h:k≤1024):sn k=(YZ k:Int):=by unfold sn;rw[Nat.mod_eq_of_lt (by omega)];exact MR h
theorem MV {k:Nat} (h:k≤1024):cs k=(YZ (1024-k):Int):=by
 unfold cs
 rw[Nat.mod_eq_of_lt (by omega)]
 by_cases h0:k=0
 ·subst h0;exact MR (by decide)
 ·rw[RN (by omega) (by omega),show 2048-(k+1024)=1024-k by omega]
def Sec (k:Nat) (x y:Int):Prop:=0≤cs k*x-sn k*y∧0<y*sn (k+1)-x*cs (k+1)∧0<sn k*x+cs k*y
instance (k:Nat) (x y:Int):Decidable (Sec k x y):=by unfold Sec;infer_instance
theorem JP (k:Nat) (x y:Int):Sec (k+1024) x y↔Sec k (-y) x:=by
 unfold Sec
 rw[show k+1024+1=k+1+1024 by omega,VM,VM,VN,VN]
 generalize cs k=a;generalize sn k=b;generalize cs (k+1)=c;generalize sn (k+1)=d
 have e1:-b*x-a*y=a * -y-b*x:=by grind
 have e2:y*c-x * -d=x*d - -y*c:=by grind
 have e3:a*x + -b*y=b * -y+a*x:=by grind
 rw[e1,e2,e3]
theorem J0 {k:Nat} {x y:Int} (hk:k<1024) (h:Sec k x y):0≤x∧0<y:=by
 obtain⟨h1,h2,h3⟩:=h
 rw[MU (by omega),MV (by omega)] at h1 h3
 rw[MU (by omega),MV (by omega)] at h2
 have p1:=Wa hk
 have p4:0<YZ (k+1):=by
  have:=HF hk
  rcases Nat.eq_zero_or_pos (YZ (k+1)) with h|h
  ·rw[h,Nat.mul_zero] at this;omega
  ·exact h
 generalize YZ k=a at *;generalize YZ (1024-k)=b at *;generalize YZ (k+1)=c at *;generalize YZ (1024-(k+1))=d at *
 have hy:0<y:=by
  rcases Int.lt_or_le 0 y with hy|hy
  ·exact hy
  ·exfalso
   have n1:(a:Int)*y≤0:=Int.mul_nonpos_of_nonneg_of_nonpos (Int.natCast_nonneg _) hy
   have n2:(b:Int)*y≤0:=Int.mul_nonpos_of_nonneg_of_nonpos (Int.natCast_nonneg _) hy
   have n3:y*(c:Int)≤0:=Int.mul_nonpos_of_nonpos_of_nonneg hy (Int.natCast_nonneg _)
   rcases Int.lt_or_le 0 x with hx|hx
   ·have n4:0≤x*(d:Int):=Int.mul_nonneg (Int.le_of_lt hx) (Int.natCast_nonneg _)
    omega
   ·have n4:(a:Int)*x≤0:=Int.mul_nonpos_of_nonneg_of_nonpos (Int.natCast_nonneg _) hx
    omega
 refine⟨?_,hy⟩
 rcases Int.lt_or_le x 0 with hx|hx
 ·exfalso
  have n1:0≤(a:Int)*y:=Int.mul_nonneg (Int.natCast_nonneg _) (Int.le_of_lt hy)
  have n2:(b:Int)*x<0:=Int.mul_neg_of_pos_of_neg (by omega) hx
  omega
 ·exact hx
theorem N4 {k:Nat} {x y:Int} (hk:k<1024) (hy:0<y) (h:0≤cs (k+1)*x-sn (k+1)*y):0≤cs k*x-sn k*y:=by
 rw[MU (by omega),MV (by omega)] at h ⊢
 have p1:=Wa hk
 have t:=HF hk
 generalize YZ k=a at *;generalize YZ (1024-k)=b at *;generalize YZ (k+1)=c at *;generalize YZ (1024-(k+1))=d at *
 have p4:0<c:=by rcases Nat.eq_zero_or_pos c with h|h;rw[h,Nat.mul_zero] at t;omega;exact h
 have t':(a:Int)*d<b*c:=by rw[← Int.natCast_mul,← Int.natCast_mul];exact Int.ofNat_lt.2 t
 rcases Nat.eq_zero_or_pos d with hd|hd
 ·exfalso
  subst hd
  have:0<(c:Int)*y:=Int.mul_pos (by omega) hy
  simp at h;omega
 ·
  have e1:(d:Int)*((b:Int)*x-a*y)=b*(d*x-c*y)+(b*c-a*d)*y:=by grind
  have q1:0≤(b:Int)*(d*x-c*y):=Int.mul_nonneg (by omega) h
  have q2:0<((b:Int)*c-a*d)*y:=Int.mul_pos (by omega) hy
  have q3:0<(d:Int)*((b:Int)*x-a*y):=by omega
  rcases Int.lt_or_le ((b:Int)*x-a*y) 0 with h5|h5
  ·have:=Int.mul_neg_of_pos_of_neg (show (0:Int)<d by omega) h5;omega
  ·exact h5
theorem MW {x y:Int} (hy:0<y):∀ (n k:Nat),k+n≤1024→0≤cs (k+n)*x-sn (k+n)*y→0≤cs k*x-sn k*y:=by
 intro n
 induction n with
 | zero=>intro k _ h;exact h
 | succ n ih=>intro k hk h;exact ih k (by omega) (N4 (k:=k+n) (by omega) hy h)
theorem HG {k l:Nat} {x y:Int} (hl:l<1024) (hkl:k<l) (hy:0<y) (h:Sec k x y) (h':Sec l x y):False:=by
 have a:=MW (x:=x) hy (l-(k+1)) (k+1) (by omega) (by rw[show k+1+(l-(k+1))=l by omega];exact h'.1)
 have b:=h.2.1
 generalize cs (k+1)=c at *;generalize sn (k+1)=d at *
 have e:y*d-x*c=-(c*x-d*y):=by grind
 omega
theorem WL {k l:Nat} {x y:Int} (hk:k<1024) (hl:l<1024) (h:Sec k x y) (h':Sec l x y):k=l:=by
 have hy:=(J0 hk h).2
 rcases Nat.lt_trichotomy k l with c|c|c
 ·exact(HG hl c hy h h').elim
 ·exact c
 ·exact(HG hk c hy h' h).elim
theorem G7 {x y:Int} (hx:0≤x) (hy:0<y):∃ k,k<1024∧Sec k x y:=by
 have key:∀ n,n≤1024→(∃ k,k<n∧Sec k x y)∨0≤cs n*x-sn n*y:=by
  intro n
  induction n with
  | zero =>
   intro _
   refine .inr ?_
   rw[MU (by omega),MV (by omega),G3,show 1024-0=1024 from rfl,HE]
   simp;omega
  | succ n ih =>
   intro hn
   rcases ih (by omega) with ⟨k,h1,h2⟩|h
   ·exact .inl ⟨k,by omega,h2⟩
   ·by_cases c:0≤cs (n+1)*x-sn (n+1)*y
    ·exact .inr c
    ·refine .inl ⟨n,by omega,h,?_,?_⟩
     ·generalize cs (n+1)=q at *;generalize sn (n+1)=d at *
      have e:y*d-x*q=-(q*x-d*y):=by grind
      omega
     ·rw[MU (by omega),MV (by omega)]
      have p1:=Wa (show n<1024 by omega)
      have q1:0≤(YZ n:Int)*x:=Int.mul_nonneg (Int.natCast_nonneg _) hx
      have q2:0<(YZ (1024-n):Int)*y:=Int.mul_pos (by omega) hy
      omega
 rcases key 1024 (by omega) with h|h
 ·exact h
 ·exfalso
  rw[MU (by omega),MV (by omega),show 1024-1024=0 from rfl,G3,HE] at h
  simp at h;omega
theorem Wb {k:Nat} {x y:Int} (hk:k<4096) (h:Sec k x y):(k<1024∧0≤x∧0<y∧Sec k x y)∨(1024≤k∧k<2048∧0 ≤ -y∧0<x∧Sec (k-1024) (-y) x) ∨
  (2048≤k∧k<3072∧0 ≤ -x∧0 < -y∧Sec (k-2048) (-x) (-y))∨(3072≤k∧0≤y∧0 < -x∧Sec (k-3072) y (-x)):=by
 by_cases c1:k<1024
 ·exact .inl ⟨c1,(J0 c1 h).1,(J0 c1 h).2,h⟩
 have h1:Sec (k-1024) (-y) x:=(JP (k-1024) x y).1 (by rw[show k-1024+1024=k by omega];exact h)
 by_cases c2:k<2048
 ·exact .inr (.inl ⟨by omega,c2,(J0 (by omega) h1).1,(J0 (by omega) h1).2,h1⟩)
 have h2:Sec (k-2048) (-x) (-y):=(JP (k-2048) (-y) x).1 (by rw[show k-2048+1024=k-1024 by omega];exact h1)
 by_cases c3:k<3072
 ·exact .inr (.inr (.inl ⟨by omega,c3,(J0 (by omega) h2).1,(J0 (by omega) h2).2,h2⟩))
 have h3:Sec (k-3072) y (-x):=by
  have:=(JP (k-3072) (-x) (-y)).1 (by rw[show k-3072+1024=k-2048 by omega];exact h2)
  rwa [Int.neg_neg] at this
 exact .inr (.inr (.inr ⟨by omega,(J0 (by omega) h3).1,(J0 (by omega) h3).2,h3⟩))
theorem TY {k l:Nat} {x y:Int} (hk:k<4096) (hl:l<4096) (h:Sec k x y) (h':Sec l x y):k=l:=by
 rcases Wb hk h with a|a|a|a <;> rcases Wb hl h' with b|b|b|b <;> first|omega|skip
 ·exact WL a.1 b.1 a.2.2.2 b.2.2.2
 ·have:=WL (by omega) (by omega) a.2.2.2.2 b.2.2.2.2;omega
 ·have:=WL (by omega) (by omega) a.2.2.2.2 b.2.2.2.2;omega
 ·have:=WL (by omega) (by omega) a.2.2.2 b.2.2.2;omega
theorem PI {x y:Int} (h:¬ (x=0∧y=0)):∃ k,k<4096∧Sec k x y:=by
 by_cases c1:0≤x∧0<y
 ·obtain⟨k,h1,h2⟩:=G7 c1.1 c1.2
  exact⟨k,by omega,h2⟩
 by_cases c2:0 ≤ -y∧0<x
 ·obtain⟨k,h1,h2⟩:=G7 c2.1 c2.2
  exact⟨k+1024,by omega,(JP k x y).2 h2⟩
 by_cases c3:0 ≤ -x∧0 < -y
 ·obtain⟨k,h1,h2⟩:=G7 c3.1 c3.2
  exact⟨k+1024+1024,by omega,(JP _ x y).2 ((JP k (-y) x).2 h2)⟩
 ·obtain⟨k,h1,h2⟩:=G7 (x:=y) (y:=-x) (by omega) (by omega)
  exact⟨k+1024+1024+1024,by omega,(JP _ x y).2 ((JP _ (-y) x).2 ((JP k (-x) (-y)).2 (by rw[Int.neg_neg];exact h2)))⟩
def UT (x y:Int):Nat:=((List.range 4096).find? (fun k=>decide (Sec k x y))).getD 0
theorem WM {x y:Int} (h:¬ (x=0∧y=0)):UT x y<4096∧Sec (UT x y) x y:=by
 obtain⟨k,h1,h2⟩:=PI h
 unfold UT
 cases hf:(List.range 4096).find? (fun k=>decide (Sec k x y)) with
 | none =>
  rw[List.find?_eq_none] at hf
  exact absurd (decide_eq_true h2) (hf k (List.mem_range.2 h1))
 | some l =>
  have a:=List.find?_some hf
  have b:=List.mem_of_find?_eq_some hf
  exact⟨List.mem_range.1 b,of_decide_eq_true a⟩
theorem PK {k:Nat} {x y:Int} (hk:k<4096) (h:Sec k x y):UT x y=k:=by
 have h0:¬ (x=0∧y=0):=by
  rintro⟨rfl,rfl⟩
  have:=h.2.2
  simp at this
 exact TY (WM h0).1 hk (WM h0).2 h
end Go.Sky
end
section
namespace Go.Sky
open Go Go.Eng
theorem TZ {n:Nat} (h:n<4096):floatToIntVal .f64 (MQ n) .i64=some (VU n):=by
 refine OJ ?_
 by_cases c1:n<1024
 ·exact EY n (by omega) (by omega)
 by_cases c2:n<2048
 ·exact EZ n (by omega) (by omega)
 by_cases c3:n<3072
 ·exact Ia n (by omega) (by omega)
 ·exact Ib n (by omega) (by omega)
theorem Si {x:Nat} {k:IntKind} {t:Int} (h:floatToIntVal .f64 x k=some t):f2i x=t:=by
 unfold floatToIntVal at h
 unfold f2i
 split at h
 ·rename_i n hn
  split at h
  ·cases h;rw[hn];rfl
  ·cases h
 ·cases h
theorem Sj (h:Int):h.tmod 4096=if 0≤h then h%4096 else -(-h%4096):=by
 split
 ·rename_i h0;exact Int.tmod_eq_emod_of_nonneg h0
 ·rename_i h0
  have:=Int.neg_tmod (-h) 4096
  rw[Int.neg_neg] at this
  rw[this,Int.tmod_eq_emod_of_nonneg (by omega)]
theorem Ux (h:Int):ZO h=h%4096:=by
 unfold ZO
 have a:=Sj h
 have b:-4096<h.tmod 4096∧h.tmod 4096<4096:=by rw[a];split <;> omega
 rw[Zn (by omega),Int.tmod_eq_emod_of_nonneg (by omega),a]
 split <;> omega
theorem ZS {h r:Int} (hr:ZO h=r):0≤r∧r<4096:=by rw[Ux] at hr;omega
theorem G8 {h r:Int} (hr:ZO h=r):Po 12 (dbl r):=TN 12 (by have:=ZS hr;omega) (ZS hr).1
theorem PL (x y:Nat):fdiv x y<18446744073709551616:=by
 unfold fdiv
 cases h:FloatKind.f64.format.div x y with
 | none=>decide
 | some r=>exact FloatKind.f64.format.div_lt h
theorem PM {zz:Nat} [h:Bd 40 zz]:Bd 400 (PH zz):=by unfold PH PE;exact XE
theorem PN {z zz:Nat} [h:Bd 20 z] [h2:Bd 40 zz]:Bd 400 (PG z zz):=by unfold PG PE;exact XE
theorem LQ {j:Int} {z:Nat} [h:Bd 20 z]:Bd 400 (G2 j z):=by
 unfold G2
 have i_:Bd 40 (Zd z z):=XE
 cases (j==1||j==2)
 ·exact PN
 ·exact PM
theorem PO {x:Nat} [h:Po 14 x]:Po 17 (W7 x):=by
 unfold W7
 have i_:=DN (x:=x)
 have j_:Po 16 (dbl (W6 x)):=i_
 cases MN x
 ·exact TU i_
 ·exact(DG:Po 17 (Zh (dbl (W6 x)) 4607182418800017408))
theorem PP {x:Nat} [h:Po 14 x]:Bd 400 (GX x):=by
 have i_:=PO (x:=x)
 have z_:Bd 20 (W8 x):=by unfold W8;exact XE
 unfold GX
 cases feq x 0
 ·cases decide (DL x>3)
  ·exact LQ
  ·have q_:Bd 400 (G2 (YO (DL x-4)) (W8 x)):=LQ
   exact bdN
 ·exact(XE:Bd 400 x)
theorem Sm {h r:Int} (hr:ZO h=r):Po 14 (fdiv (Zd (dbl r) 4614256656552045848) 4656722014701092864):=by
 have i_:=G8 hr
 exact DG
theorem MX {h r1:Int} {r2:Nat} (h1:ZO h=r1) (h2:K5 (fdiv (Zd (dbl r1) 4614256656552045848) 4656722014701092864)=r2):Bd 400 r2:=by
 subst h2
 have i_:=Sm h1
 exact PP
theorem OM {h r1:Int} {r2 r3:Nat} (h1:ZO h=r1) (h2:K5 (fdiv (Zd (dbl r1) 4614256656552045848) 4656722014701092864)=r2) (h3:QO (Zd 4670232813583204352 r2)=r3):floatToIntVal .f64 r3 .i64=some (f2i r3):=by
 have n:=ZS h1
 have t:=TZ (n:=r1.toNat) (by omega)
 have e:MQ r1.toNat=r3:=by
  unfold MQ OD
  rw[Int.toNat_of_nonneg n.1,h2,h3]
 rw[e] at t
 rw[t,Si t]
end Go.Sky
end
section
namespace Go.Sky
open Go Go.Eng Go.Proofs
def QB (h_:Int):Int :=
 let r1:=ZO h_
 let r2:=K5 (fdiv (Zd (dbl r1) 4614256656552045848) 4656722014701092864)
 let r3:=QO (Zd 4670232813583204352 r2)
 f2i r3
set_option maxRecDepth 100000 in
theorem Ui (h_:Int) (w:World) (hT:Uh w):Calls Tryz.prog 148 #[.int .i64 h_] w (Ret w (.int .i64 (QB h_))):=by
 exact Zk (vs:=[.i h_]) (w:=w) Tryz.func148 rfl Tryz.ntmps148 rfl (TC.sr (TL.r 1 [] [(2,.i 0)] {} (TL.nr (TL.r 1 [] [(3,.i h_)] {} (TL.c 4 (ZO h_) (fun r1=>.i r1) (fun w _=>Jz h_ w) {} (fun r1 hr1=>TL.r 3 [] [(5,.float .f64 (dbl r1))] {} (TL.v (sV (binOp .mul 215 (.float .f64 (dbl r1)) (.float .f64 4614256656552045848))) 6 (.float .f64 (Zd (dbl r1) 4614256656552045848)) (fun w hM=>Yh (by (try have i_:=G8 hr1);(try have b_:=MX hr1 hr2);exact fmS)) {} (TL.v (sV (binOp .quo 215 (.float .f64 (Zd (dbl r1) 4614256656552045848)) (.float .f64 4656722014701092864))) 7 (.float .f64 (fdiv (Zd (dbl r1) 4614256656552045848) 4656722014701092864)) (fun w hM=>V0 (by (try have i_:=G8 hr1);(try have b_:=MX hr1 hr2);exact fdS)) {} (TL.c 8 (K5 (fdiv (Zd (dbl r1) 4614256656552045848) 4656722014701092864)) (fun r2=>.float .f64 r2) (fun w hM=>MP (fdiv (Zd (dbl r1) 4614256656552045848) 4656722014701092864) w (Sm hr1) (PL _ _) (hT.sat hM)) {} (fun r2 hr2=>TL.v (sV (binOp .mul 215 (.float .f64 4670232813583204352) (.float .f64 r2))) 9 (.float .f64 (Zd 4670232813583204352 r2)) (fun w hM=>Yh (by (try have i_:=G8 hr1);(try have b_:=MX hr1 hr2);exact fmS)) {} (TL.c 10 (QO (Zd 4670232813583204352 r2)) (fun r3=>.float .f64 r3) (fun w _=>DO (Zd 4670232813583204352 r2) w) {} (fun r3 hr3=>TL.v (sV (convert 215 3 (.float .f64 r3))) 11 (.i (f2i r3)) (fun w hM=>D5 Kr Kr (OM hr1 hr2 hr3)) {} (TL.r 10 [] [(2,.i (f2i r3))] {} (TL.next rfl (TC.ret (TE.ret [] (.i (f2i r3)) {} (by unfold QB;refine eS (fun z=>(.i z:Value)) ?_;subst hr1 hr2 hr3;exact rfl)))))))))))))))))
def Jj (h_:Int):Int :=
 let r1:=ZO h_
 let r2:=QB (w64 (r1+1024))
 r2
theorem DR (h:Int):QB h=VU (h%4096).toNat:=by
 unfold QB
 simp only
 have n:=ZS (h:=h) rfl
 have t:=TZ (n:=(ZO h).toNat) (by omega)
 have e:MQ (ZO h).toNat=QO (Zd 4670232813583204352 (K5 (fdiv (Zd (dbl (ZO h)) 4614256656552045848) 4656722014701092864))):=by
  unfold MQ OD
  rw[Int.toNat_of_nonneg n.1]
 rw[e] at t
 rw[Si t,Ux]
theorem DT (k:Nat):QB (k:Int)=sn k:=by rw[DR,show ((k:Int)%4096).toNat=k%4096 by omega];rfl
set_option maxRecDepth 100000 in
theorem Wx (h_:Int) (w:World) (hT:Uh w):Calls Tryz.prog 149 #[.int .i64 h_] w (Ret w (.int .i64 (Jj h_))):=by
 exact Zk (vs:=[.i h_]) (w:=w) Tryz.func149 rfl Tryz.ntmps149 rfl (TC.sr (TL.r 1 [] [(2,.i 0)] {} (TL.nr (TL.r 1 [] [(3,.i h_)] {} (TL.c 4 (ZO h_) (fun r1=>.i r1) (fun w _=>Jz h_ w) {} (fun r1 hr1=>TL.r 3 [] [(5,.i (w64 (r1+1024)))] {} (TL.c 6 (QB (w64 (r1+1024))) (fun r2=>.i r2) (fun w hM=>Ui (w64 (r1+1024)) w (hT.sat hM)) {} (fun r2 hr2=>TL.r 5 [] [(2,.i r2)] {} (TL.next rfl (TC.ret (TE.ret [] (.i r2) {} (by unfold Jj;refine eS (fun z=>(.i z:Value)) ?_;subst hr1 hr2;exact rfl))))))))))))
def Zy (h_:Int):P :=
 let r1:=QB h_
 let r2:=Jj h_
 (⟨r1,r2⟩:P)
theorem DU (k:Nat):Jj (k:Int)=cs k:=by
 unfold Jj
 simp only
 rw[Ux,DR,Zn (by omega),show (((k:Int)%4096+1024)%4096).toNat=(k+1024)%4096 by omega];rfl
set_option maxRecDepth 100000 in
theorem KE (h_:Int) (w:World) (hT:Uh w):Calls Tryz.prog 132 #[.int .i64 h_] w (Ret w (P.v (Zy h_))):=by
 exact Zk (vs:=[.i h_]) (w:=w) Tryz.func132 rfl Tryz.ntmps132 rfl (TC.sr (TL.nw 2 (fun b1=>.p0 b1) (fun b1=>Bk b1 (P.c P.zero) 36) (fun b1=>{}) (fun b1=>TL.nr (TL.r 1 [] [(3,.i h_)] {} (TL.c 4 (QB h_) (fun r1=>.i r1) (fun w hM=>Ui h_ w (hT.sat hM)) {} (fun r1 hr1=>TL.r 3 [] [(5,.i h_)] {} (TL.c 6 (Jj h_) (fun r2=>.i r2) (fun w hM=>Wx h_ w (hT.sat hM)) {} (fun r2 hr2=>TL.r 5 [] [(7,P.v (⟨r1,r2⟩:P))] {} (TL.s 0 (Bk b1 (P.c (⟨r1,r2⟩:P)) 36) (fun _=>{}) (TL.next rfl (TC.ret (TE.ret [0] (P.v (⟨r1,r2⟩:P)) {} (by unfold Zy;refine eS (fun z=>(P.v z:Value)) ?_;subst hr1 hr2;exact rfl)))))))))))))
def ZC (a:P) (b_:P):Int :=
 w64 ((w64 (a.Y*b_.X))-(w64 (a.X*b_.Y)))
set_option maxRecDepth 100000 in
theorem Kw (a:P) (b_:P) (w:World):Calls Tryz.prog 133 #[P.v a,P.v b_] w (Ret w (.int .i64 (ZC a b_))):=by
 exact Zk (vs:=[P.v a,P.v b_]) (w:=w) Tryz.func133 rfl Tryz.ntmps133 rfl (TC.sr (TL.nw 2 (fun b1=>.p0 b1) (fun b1=>Bk b1 (P.c a) 36) (fun b1=>{}) (fun b1=>TL.nw 3 (fun b2=>.p0 b2) (fun b2=>Bk b2 (P.c b_) 36) (fun b2=>{}) (fun b2=>TL.r 3 [] [(4,.i 0)] {} (TL.nr (TL.r 12 [1,0,1,0] [(4,.i (w64 ((w64 (a.Y*b_.X))-(w64 (a.X*b_.Y)))))] {} (TL.next rfl (TC.ret (TE.ret [] (.i (w64 ((w64 (a.Y*b_.X))-(w64 (a.X*b_.Y))))) {} (by unfold ZC;refine eS (fun z=>(.i z:Value)) ?_;exact rfl))))))))))
def Xx (n:Int):Int:=if n<0 then -((-n+8192)/16384) else (n+8192)/16384
theorem Kx {n:Int} (hb:-4611686018427387904≤n∧n≤4611686018427387904):-4611686018427387904≤Xx n∧Xx n≤4611686018427387904:=by
 unfold Xx;split <;> omega
theorem N5 {n r:Int} (h:n<0) (hr:r=Xx (0-n)):0-r=Xx n:=by
 rw[hr];unfold Xx
 rw[if_neg (by omega),if_pos h,show 0-n=-n by omega];omega
theorem Sr {n:Int} (h:¬ n<0):(n+8192)/16384=Xx n:=by unfold Xx;rw[if_neg h]
theorem N6 {n d:Int} (hd:d=16384) (h:¬ n<0) (hb:-4611686018427387904≤n∧n≤4611686018427387904):w64 ((n+d/2).tdiv d)=Xx n:=by
 subst hd
 rw[show (16384:Int)/2=8192 from rfl,Int.tdiv_eq_ediv_of_nonneg (by omega),Zn (by omega)]
 exact Sr h
set_option maxRecDepth 100000 in
theorem G9:∀ (fu_:Nat) (n:Int) (d:Int) (w:World) (_hM:Sat ⟨w,Xj []⟩ [] w) (_hd:d=16384) (_hb:-4611686018427387904≤n∧n≤4611686018427387904) (_hn:(0-n).toNat<fu_),Calls Tryz.prog 147 #[.int .i64 n,.int .i64 d] w (QW (Γ:=Int) ⟨w,Xj []⟩ (fun g=>.int .i64 g) (fun g=>[.inr (XF (g=Xx n))]))
 | 0,_,_,_,_,_,_,hn=>absurd hn (Nat.not_lt_zero _)
 | fu_+1,n,d,w,hM,hd,hb,hn=>by
  have ih:=G9 fu_
  refine Yv (w0:=⟨w,Xj []⟩) (vs:=[.i n,.i d]) hM Tryz.func147 rfl Tryz.ntmps147 rfl (TC.weak [(0,.i n),(1,.i d)] Kr (TC.sr (TL.run 1 [] [(0,.i n),(1,.i d)] rfl {} (TL.ns (TC.sr (TL.run 2 [] [(0,.i n),(1,.i d),(6,.b (decide (n<0)))] rfl {} (TL.next rfl (TC.cond (decide (n<0)) rfl Kr (fun h1=>?_) (fun h1=>?_)))))))))
  ·refine TC.sr (TL.run 3 [] [(8,.i (w64 (0-n))),(9,.i d)] rfl {} (TL.rw 8 (.i (w64 (0-n))) (.i (0-n)) Kr (int_eq (by have q0_:=(Z1 h1);have nb_:=Kx (n:=0-n) (by omega);rw[Zn (x:=(0-n)) (by omega)])) (TL.callM (Γ:=Int) (fun g=>.i g) (fun g=>[.inr (XF (g=Xx (0-n)))]) [] [] (some 10) (fun g=>[(10,.i g)]) (fun w hM=>ih (0-n) d w hM.pass (by have q0_:=(Z1 h1);have nb_:=Kx (n:=0-n) (by omega);exact sg) (by have q0_:=(Z1 h1);have nb_:=Kx (n:=0-n) (by omega);exact sg) (by have q0_:=(Z1 h1);have nb_:=Kx (n:=0-n) (by omega);exact sg)) Kr (fun g=>Kr) ?_)))
   rintro r_
   exact TL.conv [.inr (XF (r_=Xx (0-n)))] (fun _ hM=>hM) (TL.know (fun w hM=>hM.fact_at 0 rfl) (fun hp_angle_near=>TL.forget [] (.cons _ (List.Sublist.refl _)) (TL.run 6 [] [(4,.i (w64 (0-r_)))] rfl {} (TL.rw 4 (.i (w64 (0-r_))) (.i (0-r_)) Kr (int_eq (by have q0_:=(Z1 h1);have nb_:=Kx (n:=0-n) (by omega);rw[Zn (x:=(0-r_)) (by omega)])) (TL.next rfl (TC.ret (TE.rt (TE.retM (.inl rfl) (0-r_) [] (.i (0-r_)) {} rfl (fun _ hM=>(hM.sub (sb 0)).fact (by have q0_:=(Z1 h1);have nb_:=Kx (n:=0-n) (by omega);(try dsimp only);first|exact N5 (by omega) hp_angle_near|exact N6 hd (by omega) hb))))))))))
  ·exact TC.snr (TL.run 5 [] [(15,.i (w64 (n+(w64 (d.tdiv 2))))),(16,.i d)] rfl {} (TL.rw 15 (.i (w64 (n+(w64 (d.tdiv 2))))) (.i (n+(((d/2))))) Kr (int_eq (by have q0_:=(Zq h1);have nb_:=Kx (n:=0-n) (by omega);rw[VZ (a:=d) 2 (by omega),Zn (x:=((d/2))) (by omega),Zn (x:=(n+(((d/2))))) (by omega)])) (TL.val (sV (binOp .quo 3 (.i (n+(((d/2))))) (.i d))) (some 17) (.i (w64 ((n+(((d/2)))).tdiv d))) [(17,.i (w64 ((n+(((d/2)))).tdiv d)))] (fun w hM=>Lt (by have q0_:=(Zq h1);have nb_:=Kx (n:=0-n) (by omega);exact sd)) Kr Kr (TL.run 7 [] [(4,.i (w64 ((n+(((d/2)))).tdiv d)))] rfl {} (TL.rw 4 (.i (w64 ((n+(((d/2)))).tdiv d))) (.i (w64 ((n+(((d/2)))).tdiv d))) Kr (int_eq (by have q0_:=(Zq h1);have nb_:=Kx (n:=0-n) (by omega);rw[])) (TL.next rfl (TC.ret (TE.retM (.inl rfl) (w64 ((n+(((d/2)))).tdiv d)) [] (.i (w64 ((n+(((d/2)))).tdiv d))) {} rfl (fun _ hM=>(hM.sub (sb 0)).fact (by have q0_:=(Zq h1);have nb_:=Kx (n:=0-n) (by omega);(try dsimp only);first|exact N5 (by omega) hp_angle_near|exact N6 hd (by omega) hb))))))))))
theorem GA (n:Int) (d:Int) (w:World) (hM:Sat ⟨w,Xj []⟩ [] w) (hd:d=16384) (hb:-4611686018427387904≤n∧n≤4611686018427387904):Calls Tryz.prog 147 #[.int .i64 n,.int .i64 d] w (QW (Γ:=Int) ⟨w,Xj []⟩ (fun g=>.int .i64 g) (fun g=>[.inr (XF (g=Xx n))])):=G9 ((0-n).toNat+1) n d w hM hd hb (Nat.lt_succ_self _)
end Go.Sky
end
section
namespace Go.Sky
open Go Go.Eng Go.Proofs
def Ko (x:Nat):Nat :=
 VG x
set_option maxRecDepth 100000 in
theorem DV (x:Nat) (w:World) (hx:Bd 60 x):Calls Tryz.prog 129 #[.float .f64 x] w (Ret w (.float .f64 (Ko x))):=by
 exact Zk (vs:=[.float .f64 x]) (w:=w) Tryz.func129 rfl Tryz.ntmps129 rfl (TC.sr (TL.r 1 [] [(2,.float .f64 0)] {} (TL.ns (TC.condT rfl Kr (TC.sr (TL.r 1 [] [(3,.float .f64 x)] {} (TL.v (callFunc 161 #[.float .f64 x]) 4 (.float .f64 (VG x)) (fun w hM=>MJ Tryz.func161 Kr Kr Kr Kr (by exact EX)) {} (TL.r 3 [] [(2,.float .f64 (VG x))] {} (TL.next rfl (TC.ret (TE.rt (TE.ret [] (.float .f64 (VG x)) {} (by unfold Ko;refine eS (fun z=>(.float .f64 z:Value)) ?_;exact rfl)))))))))))))
end Go.Sky
end
section
namespace Go.Sky
open Go Go.Eng
theorem N7 {e x r:Nat} [h:Bd e x] (hr:Ko x=r):Bd (e+1) r:=by subst hr;exact bdF
theorem Ss {q r:Nat} {g:Int} (_h:Bd 46 q) (h1:Ko (fdiv (Zd q 4656722014701092864) 4614256656552045848)=r) (h2:f2i r=g):-1152921504606846976≤g∧g≤1152921504606846976:=by
 have i_:=N7 h1
 have j_:Bd 60 r:=XE
 obtain⟨s,a,h3,_,h5⟩:=TO (x:=r) (e:=60) (by decide)
 have:(2:Nat) ^ 60=1152921504606846976:=rfl
 rw[← h2,h5]
 split <;> omega
def ofF (v:P):Int×Int :=
 if v.X < -2000000∨2000000<v.X∨v.Y < -2000000∨2000000<v.Y then (0,4)
 else if v.X=0∧v.Y=0 then (0,10)
 else (if cs (UT v.X v.Y)*v.X-sn (UT v.X v.Y)*v.Y≤v.Y*sn (UT v.X v.Y+1)-v.X*cs (UT v.X v.Y+1) then (UT v.X v.Y:Int) else ((UT v.X v.Y+1)%4096:Nat),0)
theorem XI {v:P} (h:((v.X==0)&&(v.Y==0))=false):¬ (v.X=0∧v.Y=0):=by
 rintro⟨h1,h2⟩
 rw[h1,h2] at h;cases h
def KZ (v:P):Prop:=-2000000≤v.X∧v.X≤2000000 ∧ -2000000≤v.Y∧v.Y≤2000000
theorem YR {v:P} (h:((((decide (v.X<(-2000000)))||(decide (v.X>2000000)))||(decide (v.Y<(-2000000))))||(decide (v.Y>2000000)))=false):KZ v:=by
 simp only[Bool.or_eq_false_iff,decide_eq_false_iff_not] at h
 unfold KZ;omega
theorem UU {v:P} (h:v.X < -2000000∨2000000<v.X∨v.Y < -2000000∨2000000<v.Y):0=(ofF v).1∧4=(ofF v).2:=by unfold ofF;rw[if_pos h];exact⟨rfl,rfl⟩
theorem Vg {v:P} (h:KZ v) (h0:v.X=0∧v.Y=0):0=(ofF v).1∧10=(ofF v).2:=by
 obtain⟨a1,a2,a3,a4⟩:=h
 unfold ofF;rw[if_neg (by omega),if_pos h0];exact⟨rfl,rfl⟩
theorem KW {a b:Int} (ha:-16384≤a∧a≤16384) (hb:-2000000≤b∧b≤2000000):-32768000000≤a*b∧a*b≤32768000000:=by
 have h:(a*b).natAbs≤16384*2000000:=by rw[Int.natAbs_mul];exact Nat.mul_le_mul (by omega) (by omega)
 omega
theorem N8 {h:Int} (hh:0≤h):Zy h=⟨sn h.toNat,cs h.toNat⟩∧Zy (h+1)=⟨sn (h.toNat+1),cs (h.toNat+1)⟩:=by
 obtain⟨k,rfl⟩:∃ k:Nat,h=k:=⟨h.toNat,by omega⟩
 unfold Zy
 simp only
 rw[show (k:Int)+1=((k+1:Nat):Int) by omega,DT,DU,DT,DU,Int.toNat_natCast]
 exact⟨rfl,rfl⟩
theorem BG {v:P} {h:Int} (hv:KZ v) (hh:0≤h∧h<4096):ZC (Zy h) v=cs h.toNat*v.X-sn h.toNat*v.Y∧ZC v (Zy (h+1))=v.Y*sn (h.toNat+1)-v.X*cs (h.toNat+1) ∧
  w64 ((w64 ((Zy h).X*v.X))+(w64 ((Zy h).Y*v.Y)))=sn h.toNat*v.X+cs h.toNat*v.Y:=by
 unfold KZ at hv
 rw[(N8 hh.1).1,(N8 hh.1).2]
 unfold ZC
 have a1:=KW (BF h.toNat) ⟨hv.1,hv.2.1⟩
 have a2:=KW (BE h.toNat) ⟨hv.1,hv.2.1⟩
 have a3:=KW (BF h.toNat) hv.2.2
 have a4:=KW (BE h.toNat) hv.2.2
 have a5:=KW (BF (h.toNat+1)) ⟨hv.1,hv.2.1⟩
 have a6:=KW (BE (h.toNat+1)) hv.2.2
 rw[Int.mul_comm _ v.X] at a5
 rw[Int.mul_comm _ v.Y] at a6
 simp only
 refine⟨?_,?_,?_⟩
 ·rw[Zn (x:=cs h.toNat*v.X) (by omega),Zn (x:=sn h.toNat*v.Y) (by omega),Zn (by omega)]
 ·rw[Zn (x:=v.Y*sn (h.toNat+1)) (by omega),Zn (x:=v.X*cs (h.toNat+1)) (by omega),Zn (by omega)]
 ·rw[Zn (x:=sn h.toNat*v.X) (by omega),Zn (x:=cs h.toNat*v.Y) (by omega),Zn (by omega)]
theorem LR {v:P} {h:Int} (hv:KZ v) (hh:0≤h∧h<4096):(((decide (ZC (Zy h) v≥0))&&(decide (ZC v (Zy (h+1))>0)))&&(decide ((w64 ((w64 ((Zy h).X*v.X))+(w64 ((Zy h).Y*v.Y))))>0)))=true↔Sec h.toNat v.X v.Y:=by
 obtain⟨e1,e2,e3⟩:=BG hv hh
 rw[e1,e2,e3,Bool.and_eq_true,Bool.and_eq_true,decide_eq_true_eq,decide_eq_true_eq,decide_eq_true_eq]
 unfold Sec
 exact and_assoc
theorem Su {v:P} {h:Int} (hv:KZ v) (h0:¬ (v.X=0∧v.Y=0)) (hh:0≤h∧h<4096) (c:(((decide (ZC (Zy h) v≥0))&&(decide (ZC v (Zy (h+1))>0)))&&(decide ((w64 ((w64 ((Zy h).X*v.X))+(w64 ((Zy h).Y*v.Y))))>0)))=true) :
  ofF v=(if ZC (Zy h) v≤ZC v (Zy (h+1)) then h else ZO (h+1),0):=by
 have hs:=PK (by omega) ((LR hv hh).1 c)
 obtain⟨e1,e2,_⟩:=BG hv hh
 unfold KZ at hv
 unfold ofF
 rw[if_neg (by omega),if_neg h0,hs,e1,e2,Ux]
 generalize cs h.toNat*v.X-sn h.toNat*v.Y=a
 generalize v.Y*sn (h.toNat+1)-v.X*cs (h.toNat+1)=b
 by_cases d:a≤b
 ·rw[if_pos d,if_pos d,Int.toNat_of_nonneg hh.1]
 ·rw[if_neg d,if_neg d,show (((h.toNat+1)%4096:Nat):Int)=(h+1)%4096 by omega]
theorem Ic {v:P} {h:Int} (hv:KZ v) (h0:¬ (v.X=0∧v.Y=0)) (hh:0≤h∧h<4096) (c:(((decide (ZC (Zy h) v≥0))&&(decide (ZC v (Zy (h+1))>0)))&&(decide ((w64 ((w64 ((Zy h).X*v.X))+(w64 ((Zy h).Y*v.Y))))>0)))=true)
  (d:decide (ZC (Zy h) v≤ZC v (Zy (h+1)))=true):h=(ofF v).1∧0=(ofF v).2:=by
 rw[Su hv h0 hh c,if_pos (of_decide_eq_true d)];exact⟨rfl,rfl⟩
theorem Ie {v:P} {h:Int} (hv:KZ v) (h0:¬ (v.X=0∧v.Y=0)) (hh:0≤h∧h<4096) (c:(((decide (ZC (Zy h) v≥0))&&(decide (ZC v (Zy (h+1))>0)))&&(decide ((w64 ((w64 ((Zy h).X*v.X))+(w64 ((Zy h).Y*v.Y))))>0)))=true)
  (d:decide (ZC (Zy h) v≤ZC v (Zy (h+1)))=false):ZO (h+1)=(ofF v).1∧0=(ofF v).2:=by
 rw[Su hv h0 hh c,if_neg (of_decide_eq_false d)];exact⟨rfl,rfl⟩
def Bj (g:Int) (j:Nat):Nat:=((if j%2=1 then g-j else g+j)%4096).toNat
def Vh (v:P) (g s:Int):Prop:=(0≤s∧s≤4096)∧∀ j:Nat,(j:Int)<s→¬ Sec (Bj g j) v.X v.Y
theorem LS {v:P} {g s h:Int} (hv:KZ v) (hi:Vh v g s) (hs:s<4096) (hh:(Bj g s.toNat:Int)=h) (c:(((decide (ZC (Zy h) v≥0))&&(decide (ZC v (Zy (h+1))>0)))&&(decide ((w64 ((w64 ((Zy h).X*v.X))+(w64 ((Zy h).Y*v.Y))))>0)))=false) :
  Vh v g (s+1):=by
 unfold Vh at hi ⊢
 refine⟨by omega,fun j hj=>?_⟩
 by_cases hjs:(j:Int)<s
 ·exact hi.2 j hjs
 ·intro hx
  have e:s.toNat=j:=by omega
  rw[e] at hh
  have l:Bj g j<4096:=by unfold Bj;omega
  rw[(LR hv (by omega)).2 (by rw[← hh,Int.toNat_natCast];exact hx)] at c
  cases c
theorem ON {v:P} {g s:Int} (hv:KZ v) (hi:Vh v g s) (hs:s<4096) (ho:(s.tmod 2==1)=true) (c:(((decide (ZC (Zy (ZO (g-s))) v≥0))&&(decide (ZC v (Zy (ZO (g-s)+1))>0)))&&(decide ((w64 ((w64 ((Zy (ZO (g-s))).X*v.X))+(w64 ((Zy (ZO (g-s))).Y*v.Y))))>0)))=false) :
  Vh v g (s+1):=by
 have o:=beq_iff_eq.1 ho
 rw[Int.tmod_eq_emod_of_nonneg hi.1.1] at o
 have:=hi.1.1
 refine LS hv hi hs ?_ c
 rw[Ux];unfold Bj
 rw[if_pos (by omega)];omega
theorem OO {v:P} {g s:Int} (hv:KZ v) (hi:Vh v g s) (hs:s<4096) (ho:(s.tmod 2==1)=false) (c:(((decide (ZC (Zy (ZO (g+s))) v≥0))&&(decide (ZC v (Zy (ZO (g+s)+1))>0)))&&(decide ((w64 ((w64 ((Zy (ZO (g+s))).X*v.X))+(w64 ((Zy (ZO (g+s))).Y*v.Y))))>0)))=false) :
  Vh v g (s+1):=by
 have o:=beq_eq_false_iff_ne.1 ho
 rw[Int.tmod_eq_emod_of_nonneg hi.1.1] at o
 have:=hi.1.1
 refine LS hv hi hs ?_ c
 rw[Ux];unfold Bj
 rw[if_neg (by omega)];omega
theorem Vi {v u w:P} {g h a b:Int} (hv:KZ v) (h0:¬ (v.X=0∧v.Y=0)) (hn:ZO g=h) (hu:Zy h=u) (hw:Zy (h+1)=w) (ha:ZC u v=a) (hb:ZC v w=b) (c:(((decide (a≥0))&&(decide (b>0)))&&(decide ((w64 ((w64 (u.X*v.X))+(w64 (u.Y*v.Y))))>0)))=true) (d:decide (a≤b)=true):h=(ofF v).1∧0=(ofF v).2:=by
 subst hu hw ha hb;exact Ic hv h0 (ZS hn) c d
theorem Vj {v u w:P} {g h a b r:Int} (hv:KZ v) (h0:¬ (v.X=0∧v.Y=0)) (hn:ZO g=h) (hu:Zy h=u) (hw:Zy (h+1)=w) (ha:ZC u v=a) (hb:ZC v w=b) (c:(((decide (a≥0))&&(decide (b>0)))&&(decide ((w64 ((w64 (u.X*v.X))+(w64 (u.Y*v.Y))))>0)))=true) (d:decide (a≤b)=false) (hr:ZO (h+1)=r):r=(ofF v).1∧0=(ofF v).2:=by
 subst hu hw ha hb hr;exact Ie hv h0 (ZS hn) c d
theorem Ot {v u w:P} {g s h a b:Int} (hv:KZ v) (hi:Vh v g s) (hs:s<4096) (ho:(s.tmod 2==1)=true) (hn:ZO (g-s)=h) (hu:Zy h=u) (hw:Zy (h+1)=w) (ha:ZC u v=a) (hb:ZC v w=b) (c:(((decide (a≥0))&&(decide (b>0)))&&(decide ((w64 ((w64 (u.X*v.X))+(w64 (u.Y*v.Y))))>0)))=false):Vh v g (s+1):=by
 subst hn;subst hu hw ha hb;exact ON hv hi hs ho c
theorem Ou {v u w:P} {g s h a b:Int} (hv:KZ v) (hi:Vh v g s) (hs:s<4096) (ho:(s.tmod 2==1)=false) (hn:ZO (g+s)=h) (hu:Zy h=u) (hw:Zy (h+1)=w) (ha:ZC u v=a) (hb:ZC v w=b) (c:(((decide (a≥0))&&(decide (b>0)))&&(decide ((w64 ((w64 (u.X*v.X))+(w64 (u.Y*v.Y))))>0)))=false):Vh v g (s+1):=by
 subst hn;subst hu hw ha hb;exact OO hv hi hs ho c
theorem Sv (v:P) (g:Int):Vh v g 0:=⟨by omega,fun j hj=>by omega⟩
theorem OP {v:P} {g s:Int} (h0:¬ (v.X=0∧v.Y=0)) (hi:Vh v g s) (hs:¬ s<4096):False:=by
 obtain⟨h1,h2⟩:=WM h0
 generalize UT v.X v.Y=K at *
 obtain⟨e,he⟩:∃ e:Nat,((K:Int)-g)%4096=e:=⟨(((K:Int)-g)%4096).toNat,by omega⟩
 by_cases ho:e%2=1
 ·refine hi.2 (4096-e) (by omega) ?_
  have:Bj g (4096-e)=K:=by unfold Bj;rw[if_pos (by omega)];omega
  rw[this];exact h2
 ·refine hi.2 e (by omega) ?_
  have:Bj g e=K:=by unfold Bj;rw[if_neg ho];omega
  rw[this];exact h2
end Go.Sky
end
section
namespace Go.Sky
open Go Go.Eng Go.Proofs
set_option maxHeartbeats 4000000 in
set_option maxRecDepth 100000 in
theorem MY (v:P) (w:World) (hM:Sat ⟨w,Xj []⟩ [] w) (hT:Uh w):Calls Tryz.prog 72 #[P.v v] w (QW (Γ:=Int×Int) ⟨w,Xj []⟩ (fun g=>.tuple #[.int .i64 g.1,.int .i64 g.2]) (fun g=>[.inr (XF (g.1=(ofF v).1∧g.2=(ofF v).2))])):=by
 refine Yv (w0:=⟨w,Xj []⟩) (vs:=[P.v v]) hM Tryz.func72 rfl Tryz.ntmps72 rfl (TC.weak [(0,P.v v)] Kr (TC.sr (TL.write 0 (fun b1=>[(1,.p0 b1)]) (fun b1=>[Bk b1 (P.c v) 36]) (fun b1=>{}) (fun b1=>TL.run 3 [] [(1,.p0 b1)] rfl {} (TL.ns (TC.block (TC.sr (TL.run 4 [0] [(1,.p0 b1),(15,.b (decide (v.X<(-2000000))))] rfl {} (TL.join 15 (decide (v.X<(-2000000))) 8 [] [0] (fun β=>[(1,.p0 b1),(19,.b (β||(decide (v.X>2000000))))]) Kr rfl {} {} (TL.run 9 [] [(1,.p0 b1),(20,.b ((decide (v.X<(-2000000)))||(decide (v.X>2000000))))] rfl {} (TL.join 20 ((decide (v.X<(-2000000)))||(decide (v.X>2000000))) 13 [] [0] (fun β=>[(1,.p0 b1),(24,.b (β||(decide (v.Y<(-2000000)))))]) Kr rfl {} {} (TL.run 14 [] [(1,.p0 b1),(25,.b (((decide (v.X<(-2000000)))||(decide (v.X>2000000)))||(decide (v.Y<(-2000000)))))] rfl {} (TL.join 25 (((decide (v.X<(-2000000)))||(decide (v.X>2000000)))||(decide (v.Y<(-2000000)))) 18 [] [0] (fun β=>[(1,.p0 b1),(29,.b (β||(decide (v.Y>2000000))))]) Kr rfl {} {} (TL.run 19 [] [(1,.p0 b1),(11,.b ((((decide (v.X<(-2000000)))||(decide (v.X>2000000)))||(decide (v.Y<(-2000000))))||(decide (v.Y>2000000))))] rfl {} (TL.next rfl (TC.cond ((((decide (v.X<(-2000000)))||(decide (v.X>2000000)))||(decide (v.Y<(-2000000))))||(decide (v.Y>2000000))) rfl Kr (fun h1=>?_) (fun h1=>?_)))))))))))))))))
 ·refine TC.sr (TL.run 2 [] [(2,.i 0),(3,.i 4)] rfl {} (TL.next rfl (TC.ret (TE.rb (TE.rt ?_)))))
  exact TE.retM (.inl rfl) (0,4) [] (.tuple #[.i 0,.i 4]) {} rfl (fun _ hM=>(hM.sub (sb 0)).fact (by have q0_:=((V6 h1).imp (fun h=>((V6 h).imp (fun h=>((V6 h).imp (fun h=>(Z1 h)) (fun h=>(Z1 h)))) (fun h=>(Z1 h)))) (fun h=>(Z1 h)));(try have bq_:=hp_math_Atan2);(try have n3_:=ZS hr3);(try have n4_:=ZS hr4);(try dsimp only);first|exact UU (by omega)|exact Vg (YR h1) (by omega)|exact Vj (YR h1) (XI h2) hr4 hr5 hr6 hr7 hr8 h5 h6 hr9|exact Vj (YR h1) (XI h2) hr3 hr10 hr11 hr12 hr13 h7 h8 hr14|exact Vi (YR h1) (XI h2) hr4 hr5 hr6 hr7 hr8 h5 h6|exact Vi (YR h1) (XI h2) hr3 hr10 hr11 hr12 hr13 h7 h8|exact False.elim ho0))
 ·refine TC.sr (TL.run 4 [0] [(1,.p0 b1),(34,.b (v.X==0))] rfl {} (TL.join 34 (v.X==0) 8 [0] [] (fun β=>[(1,.p0 b1),(38,.b (β&&(v.Y==0)))]) Kr rfl {} {} (TL.run 9 [] [(1,.p0 b1),(30,.b ((v.X==0)&&(v.Y==0)))] rfl {} (TL.next rfl (TC.cond ((v.X==0)&&(v.Y==0)) rfl Kr (fun h2=>?_) (fun h2=>?_))))))
  ·refine TC.sr (TL.run 2 [] [(2,.i 0),(3,.i 10)] rfl {} (TL.next rfl (TC.ret (TE.rb (TE.rt ?_)))))
   exact TE.retM (.inl rfl) (0,10) [] (.tuple #[.i 0,.i 10]) {} rfl (fun _ hM=>(hM.sub (sb 0)).fact (by have q0_:=(Zq (Zt (Zt (Zt h1))));have q1_:=(Zq (ZR (Zt (Zt h1))));have q2_:=(Zq (ZR (Zt h1)));have q3_:=(Zq (ZR h1));have q4_:=(Y7 (Qw h2));have q5_:=(Y7 (Jk h2));(try have bq_:=hp_math_Atan2);(try have n3_:=ZS hr3);(try have n4_:=ZS hr4);(try dsimp only);first|exact UU (by omega)|exact Vg (YR h1) (by omega)|exact Vj (YR h1) (XI h2) hr4 hr5 hr6 hr7 hr8 h5 h6 hr9|exact Vj (YR h1) (XI h2) hr3 hr10 hr11 hr12 hr13 h7 h8 hr14|exact Vi (YR h1) (XI h2) hr4 hr5 hr6 hr7 hr8 h5 h6|exact Vi (YR h1) (XI h2) hr3 hr10 hr11 hr12 hr13 h7 h8|exact False.elim ho0))
  ·refine TC.skip (TE.nb (TE.nr (TL.run 6 [0,0] [(1,.p0 b1),(41,.float .f64 (dbl v.X)),(44,.float .f64 (dbl v.Y))] rfl {} (TL.callM (Γ:=Nat) (fun g=>.float .f64 g) (fun g=>[.inr (XF (Bd 46 g))]) [] [Bk b1 (P.c v) 36] (some 45) (fun g=>[(1,.p0 b1),(45,.float .f64 g)]) (fun w hM=>DK (dbl v.X) (dbl v.Y) w hM.pass (by have q0_:=(Zq (Zt (Zt (Zt h1))));have q1_:=(Zq (ZR (Zt (Zt h1))));have q2_:=(Zq (ZR (Zt h1)));have q3_:=(Zq (ZR h1));have q4_:=((X8 h2).imp (fun h=>(ZQ h)) (fun h=>(ZQ h)));(try have bq_:=hp_math_Atan2);(try have n3_:=ZS hr3);(try have n4_:=ZS hr4);exact⟨v.X,by omega,rfl⟩) (by have q0_:=(Zq (Zt (Zt (Zt h1))));have q1_:=(Zq (ZR (Zt (Zt h1))));have q2_:=(Zq (ZR (Zt h1)));have q3_:=(Zq (ZR h1));have q4_:=((X8 h2).imp (fun h=>(ZQ h)) (fun h=>(ZQ h)));(try have bq_:=hp_math_Atan2);(try have n3_:=ZS hr3);(try have n4_:=ZS hr4);exact⟨v.Y,by omega,rfl⟩)) Kr (fun g=>Kr) ?_))))
   rintro r_
   refine TL.conv [.inr (XF (Bd 46 r_)),Bk b1 (P.c v) 36] (fun _ hM=>hM) (TL.know (fun w hM=>hM.fact_at 0 rfl) (fun hp_math_Atan2=>TL.forget [Bk b1 (P.c v) 36] (.cons _ (List.Sublist.refl _)) (TL.val (sV (binOp .mul 215 (.float .f64 r_) (.float .f64 4656722014701092864))) (some 46) (.float .f64 (Zd r_ 4656722014701092864)) [(1,.p0 b1),(46,.float .f64 (Zd r_ 4656722014701092864))] (fun w hM=>Yh (by have q0_:=(Zq (Zt (Zt (Zt h1))));have q1_:=(Zq (ZR (Zt (Zt h1))));have q2_:=(Zq (ZR (Zt h1)));have q3_:=(Zq (ZR h1));have q4_:=((X8 h2).imp (fun h=>(ZQ h)) (fun h=>(ZQ h)));(try have bq_:=hp_math_Atan2);(try have n3_:=ZS hr3);(try have n4_:=ZS hr4);exact fmS)) Kr Kr (TL.val (sV (binOp .quo 215 (.float .f64 (Zd r_ 4656722014701092864)) (.float .f64 4614256656552045848))) (some 47) (.float .f64 (fdiv (Zd r_ 4656722014701092864) 4614256656552045848)) [(1,.p0 b1),(47,.float .f64 (fdiv (Zd r_ 4656722014701092864) 4614256656552045848))] (fun w hM=>V0 (by have q0_:=(Zq (Zt (Zt (Zt h1))));have q1_:=(Zq (ZR (Zt (Zt h1))));have q2_:=(Zq (ZR (Zt h1)));have q3_:=(Zq (ZR h1));have q4_:=((X8 h2).imp (fun h=>(ZQ h)) (fun h=>(ZQ h)));(try have bq_:=hp_math_Atan2);(try have n3_:=ZS hr3);(try have n4_:=ZS hr4);exact fdS)) Kr Kr (TL.call (some 48) [(1,.p0 b1),(48,.float .f64 (Ko (fdiv (Zd r_ 4656722014701092864) 4614256656552045848)))] (fun w _=>DV (fdiv (Zd r_ 4656722014701092864) 4614256656552045848) w (by have q0_:=(Zq (Zt (Zt (Zt h1))));have q1_:=(Zq (ZR (Zt (Zt h1))));have q2_:=(Zq (ZR (Zt h1)));have q3_:=(Zq (ZR h1));have q4_:=((X8 h2).imp (fun h=>(ZQ h)) (fun h=>(ZQ h)));(try have bq_:=hp_math_Atan2);(try have n3_:=ZS hr3);(try have n4_:=ZS hr4);exact XE)) Kr Kr ?_)))))
   generalize hr1:Ko (fdiv (Zd r_ 4656722014701092864) 4614256656552045848)=r1
   refine TL.val (sV (convert 215 3 (.float .f64 r1))) (some 49) (.i (f2i r1)) [(1,.p0 b1),(49,.i (f2i r1))] (fun w hM=>D5 Kr Kr (by have q0_:=(Zq (Zt (Zt (Zt h1))));have q1_:=(Zq (ZR (Zt (Zt h1))));have q2_:=(Zq (ZR (Zt h1)));have q3_:=(Zq (ZR h1));have q4_:=((X8 h2).imp (fun h=>(ZQ h)) (fun h=>(ZQ h)));(try have bq_:=hp_math_Atan2);(try have n3_:=ZS hr3);(try have n4_:=ZS hr4);have b_:=N7 hr1;exact P4 (e:=58))) Kr Kr (TL.run 12 [] [(1,.p0 b1),(4,.i (f2i r1))] rfl {} ?_)
   generalize hr2:f2i r1=r2
   have g_:=Ss hp_math_Atan2 hr1 hr2;clear hr1 hr2 hp_math_Atan2
   refine TL.ns (TC.sr (TL.run 1 [] [(1,.p0 b1),(4,.i r2),(50,.i 0)] rfl {} (TL.next rfl (TC.weak [(1,.p0 b1),(4,.i r2),(50,.i 0)] Kr (TC.cut (S:=Unit) (fun (_:Unit)=>[]) (fun (_:Unit)=>[Bk b1 (P.c v) 36]) (fun (_:Unit)=>(False)) ?_ ?_)))))
   ·refine TC.block (TC.loop (X:=Int) (fun s=>[(1,.p0 b1),(4,.i r2),(50,.i s)]) (fun s=>[Bk b1 (P.c v) 36]) (fun s=>(4096-s).toNat) (fun s=>(Vh v r2 s)) ?_ 0 (by have q0_:=(Zq (Zt (Zt (Zt h1))));have q1_:=(Zq (ZR (Zt (Zt h1))));have q2_:=(Zq (ZR (Zt h1)));have q3_:=(Zq (ZR h1));have q4_:=((X8 h2).imp (fun h=>(ZQ h)) (fun h=>(ZQ h)));(try have bq_:=hp_math_Atan2);(try have n3_:=ZS hr3);(try have n4_:=ZS hr4);first|exact Sv _ _))
    rintro s hv0
    refine TC.sr (TL.run 1 [] [(1,.p0 b1),(4,.i r2),(50,.i s),(51,.b (decide (s<4096)))] rfl {} (TL.ns (TC.cond (decide (s<4096)) rfl Kr (fun h3=>?_) (fun h3=>?_))))
    ·refine TC.sn (TC.seq (TC.block (TC.sr (TL.run 2 [] [(1,.p0 b1),(4,.i r2),(5,.i s),(50,.i s)] rfl {} (TL.nr (TL.run 3 [] [(1,.p0 b1),(4,.i r2),(5,.i s),(50,.i s),(55,.i (w64 (r2+s)))] rfl {} (TL.rw 55 (.i (w64 (r2+s))) (.i (r2+s)) Kr (int_eq (by have q0_:=(Zq (Zt (Zt (Zt h1))));have q1_:=(Zq (ZR (Zt (Zt h1))));have q2_:=(Zq (ZR (Zt h1)));have q3_:=(Zq (ZR h1));have q4_:=((X8 h2).imp (fun h=>(ZQ h)) (fun h=>(ZQ h)));have q5_:=(Z1 h3);(try have bq_:=hp_math_Atan2);(try have n3_:=ZS hr3);(try have n4_:=ZS hr4);have hv0_:=hv0.1;rw[Zn (x:=(r2+s)) (by omega)])) (TL.call (some 56) [(1,.p0 b1),(4,.i r2),(5,.i s),(50,.i s),(56,.i (ZO (r2+s)))] (fun w _=>Jz (r2+s) w) Kr Kr ?_))))))))
     generalize hr3:ZO (r2+s)=r3
     refine TL.run 5 [] [(1,.p0 b1),(4,.i r2),(5,.i s),(6,.i r3),(50,.i s)] rfl {} (TL.ns (TC.sr (TL.run 3 [] [(1,.p0 b1),(4,.i r2),(5,.i s),(6,.i r3),(50,.i s),(59,.b ((s.tmod 2)==1))] rfl {} (TL.next rfl (TC.cond ((s.tmod 2)==1) rfl Kr (fun h4=>?_) (fun h4=>?_))))))
     ·refine TC.region (TL.run 3 [] [(1,.p0 b1),(4,.i r2),(50,.i s),(62,.i (w64 (r2-s)))] rfl {} (TL.rw 62 (.i (w64 (r2-s))) (.i (r2-s)) Kr (int_eq (by have q0_:=(Zq (Zt (Zt (Zt h1))));have q1_:=(Zq (ZR (Zt (Zt h1))));have q2_:=(Zq (ZR (Zt h1)));have q3_:=(Zq (ZR h1));have q4_:=((X8 h2).imp (fun h=>(ZQ h)) (fun h=>(ZQ h)));have q5_:=(Z1 h3);have q6_:=(Y7 h4);(try have bq_:=hp_math_Atan2);(try have n3_:=ZS hr3);(try have n4_:=ZS hr4);have hv0_:=hv0.1;rw[Zn (x:=(r2-s)) (by omega)])) (TL.call (some 63) [(1,.p0 b1),(4,.i r2),(50,.i s),(63,.i (ZO (r2-s)))] (fun w _=>Jz (r2-s) w) Kr Kr ?_)))
      generalize hr4:ZO (r2-s)=r4
      refine TL.run 5 [] [(1,.p0 b1),(4,.i r2),(6,.i r4),(50,.i s)] rfl {} (TL.nr (TL.run 1 [] [(1,.p0 b1),(4,.i r2),(6,.i r4),(50,.i s),(64,.i r4)] rfl {} (TL.call (some 65) [(1,.p0 b1),(4,.i r2),(6,.i r4),(50,.i s),(65,P.v (Zy r4))] (fun w hM=>KE r4 w (hT.sat hM)) Kr Kr ?_)))
      generalize hr5:Zy r4=r5
      refine TL.run 4 [] [(1,.p0 b1),(4,.i r2),(6,.i r4),(50,.i s),(65,P.v r5),(67,.i (w64 (r4+1)))] rfl {} (TL.rw 67 (.i (w64 (r4+1))) (.i (r4+1)) Kr (int_eq (by have q0_:=(Zq (Zt (Zt (Zt h1))));have q1_:=(Zq (ZR (Zt (Zt h1))));have q2_:=(Zq (ZR (Zt h1)));have q3_:=(Zq (ZR h1));have q4_:=((X8 h2).imp (fun h=>(ZQ h)) (fun h=>(ZQ h)));have q5_:=(Z1 h3);have q6_:=(Y7 h4);(try have bq_:=hp_math_Atan2);(try have n3_:=ZS hr3);(try have n4_:=ZS hr4);have hv0_:=hv0.1;rw[Zn (x:=(r4+1)) (by omega)])) (TL.call (some 68) [(1,.p0 b1),(4,.i r2),(6,.i r4),(50,.i s),(65,P.v r5),(68,P.v (Zy (r4+1)))] (fun w hM=>KE (r4+1) w (hT.sat hM)) Kr Kr ?_))
      generalize hr6:Zy (r4+1)=r6
      refine TL.write 0 (fun b2=>[(1,.p0 b1),(4,.i r2),(6,.i r4),(7,.p0 b2),(50,.i s),(65,P.v r5),(68,P.v r6)]) (fun b2=>[Bk b2 (P.c P.zero) 36,Bk b1 (P.c v) 36]) (fun b2=>{}) (fun b2=>TL.write 0 (fun b3=>[(1,.p0 b1),(4,.i r2),(6,.i r4),(7,.p0 b2),(8,.p0 b3),(50,.i s),(65,P.v r5),(68,P.v r6)]) (fun b3=>[Bk b3 (P.c P.zero) 36,Bk b2 (P.c P.zero) 36,Bk b1 (P.c v) 36]) (fun b3=>{}) (fun b3=>TL.write 1 (fun _=>[(1,.p0 b1),(4,.i r2),(6,.i r4),(7,.p0 b2),(8,.p0 b3),(50,.i s),(68,P.v r6)]) (fun _=>[Bk b3 (P.c P.zero) 36,Bk b2 (P.c r5) 36,Bk b1 (P.c v) 36]) (fun _=>{}) (fun _=>TL.write 0 (fun _=>[(1,.p0 b1),(4,.i r2),(6,.i r4),(7,.p0 b2),(8,.p0 b3),(50,.i s)]) (fun _=>[Bk b3 (P.c r6) 36,Bk b2 (P.c r5) 36,Bk b1 (P.c v) 36]) (fun _=>{}) (fun _=>TL.ns (TC.draw 8 Kr Kr Kr (TQ.run 2 [1,2] [(1,.p0 b1),(4,.i r2),(6,.i r4),(7,.p0 b2),(8,.p0 b3),(50,.i s),(69,P.v r5),(70,P.v v)] rfl {} (TQ.call (some 71) [(1,.p0 b1),(4,.i r2),(6,.i r4),(7,.p0 b2),(8,.p0 b3),(50,.i s),(71,.i (ZC r5 v))] (fun w _=>Kw r5 v w) rfl Kr Kr ?_)))))))
      generalize hr7:ZC r5 v=r7
      refine TQ.run 5 [2,0] [(1,.p0 b1),(4,.i r2),(6,.i r4),(7,.p0 b2),(50,.i s),(71,.i r7),(72,P.v v),(73,P.v r6)] rfl {} (TQ.call (some 74) [(1,.p0 b1),(4,.i r2),(6,.i r4),(7,.p0 b2),(50,.i s),(71,.i r7),(74,.i (ZC v r6))] (fun w _=>Kw v r6 w) rfl Kr Kr ?_)
      generalize hr8:ZC v r6=r8
      refine TQ.run 8 [] [(1,.p0 b1),(4,.i r2),(6,.i r4),(7,.p0 b2),(9,.i r7),(10,.i r8),(50,.i s)] rfl {} (TQ.next rfl (TC.sr (TL.run 3 [] [(1,.p0 b1),(4,.i r2),(6,.i r4),(7,.p0 b2),(9,.i r7),(10,.i r8),(50,.i s),(77,.b (decide (r7≥0)))] rfl {} (TL.join 77 (decide (r7≥0)) 6 [] [] (fun β=>[(1,.p0 b1),(4,.i r2),(6,.i r4),(7,.p0 b2),(9,.i r7),(10,.i r8),(50,.i s),(80,.b (β&&(decide (r8>0))))]) Kr rfl {} {} (TL.run 7 [] [(1,.p0 b1),(4,.i r2),(6,.i r4),(7,.p0 b2),(9,.i r7),(10,.i r8),(50,.i s),(81,.b ((decide (r7≥0))&&(decide (r8>0))))] rfl {} (TL.join 81 ((decide (r7≥0))&&(decide (r8>0))) 20 [1,2,1,2] [] (fun β=>[(1,.p0 b1),(4,.i r2),(6,.i r4),(9,.i r7),(10,.i r8),(50,.i s),(94,.b (β&&(decide ((w64 ((w64 (r5.X*v.X))+(w64 (r5.Y*v.Y))))>0))))]) Kr rfl {} {} (TL.next rfl (TC.cond (((decide (r7≥0))&&(decide (r8>0)))&&(decide ((w64 ((w64 (r5.X*v.X))+(w64 (r5.Y*v.Y))))>0))) rfl Kr (fun h5=>?_) (fun h5=>?_)))))))))
      ·refine TC.seq (TC.sr (TL.run 3 [] [(6,.i r4),(97,.b (decide (r7≤r8)))] rfl {} (TL.next rfl (TC.cond (decide (r7≤r8)) rfl Kr (fun h6=>?_) (fun h6=>?_)))))
       ·refine TC.sr (TL.run 3 [] [(2,.i r4),(3,.i 0)] rfl {} (TL.next rfl (TC.ret (TE.rt (TE.rb (TE.rt (TE.rt (TE.rb (TE.rt (TE.rt ?_))))))))))
        exact TE.retM (.inl rfl) (r4,0) [] (.tuple #[.i r4,.i 0]) {} rfl (fun _ hM=>(hM.sub (sb 0)).fact (by have q0_:=(Zq (Zt (Zt (Zt h1))));have q1_:=(Zq (ZR (Zt (Zt h1))));have q2_:=(Zq (ZR (Zt h1)));have q3_:=(Zq (ZR h1));have q4_:=((X8 h2).imp (fun h=>(ZQ h)) (fun h=>(ZQ h)));have q5_:=(Z1 h3);have q6_:=(Y7 h4);have q7_:=(Z1 (Qw (Qw h5)));have q8_:=(Z1 (Jk (Qw h5)));have q9_:=(Z1 (Jk h5));have q10_:=(Z1 h6);(try have bq_:=hp_math_Atan2);(try have n3_:=ZS hr3);(try have n4_:=ZS hr4);have hv0_:=hv0.1;(try dsimp only);first|exact UU (by omega)|exact Vg (YR h1) (by omega)|exact Vj (YR h1) (XI h2) hr4 hr5 hr6 hr7 hr8 h5 h6 hr9|exact Vj (YR h1) (XI h2) hr3 hr10 hr11 hr12 hr13 h7 h8 hr14|exact Vi (YR h1) (XI h2) hr4 hr5 hr6 hr7 hr8 h5 h6|exact Vi (YR h1) (XI h2) hr3 hr10 hr11 hr12 hr13 h7 h8|exact False.elim ho0))
       ·refine TC.snr (TL.run 2 [] [(100,.i (w64 (r4+1)))] rfl {} (TL.rw 100 (.i (w64 (r4+1))) (.i (r4+1)) Kr (int_eq (by have q0_:=(Zq (Zt (Zt (Zt h1))));have q1_:=(Zq (ZR (Zt (Zt h1))));have q2_:=(Zq (ZR (Zt h1)));have q3_:=(Zq (ZR h1));have q4_:=((X8 h2).imp (fun h=>(ZQ h)) (fun h=>(ZQ h)));have q5_:=(Z1 h3);have q6_:=(Y7 h4);have q7_:=(Z1 (Qw (Qw h5)));have q8_:=(Z1 (Jk (Qw h5)));have q9_:=(Z1 (Jk h5));have q10_:=(Zq h6);(try have bq_:=hp_math_Atan2);(try have n3_:=ZS hr3);(try have n4_:=ZS hr4);have hv0_:=hv0.1;rw[Zn (x:=(r4+1)) (by omega)])) (TL.call (some 101) [(101,.i (ZO (r4+1)))] (fun w _=>Jz (r4+1) w) Kr Kr ?_)))
        generalize hr9:ZO (r4+1)=r9
        refine TL.run 5 [] [(2,.i r9),(3,.i 0)] rfl {} (TL.next rfl (TC.ret (TE.rb (TE.rt (TE.rt (TE.rb (TE.rt (TE.rt ?_))))))))
        exact TE.retM (.inl rfl) (r9,0) [] (.tuple #[.i r9,.i 0]) {} rfl (fun _ hM=>(hM.sub (sb 0)).fact (by have q0_:=(Zq (Zt (Zt (Zt h1))));have q1_:=(Zq (ZR (Zt (Zt h1))));have q2_:=(Zq (ZR (Zt h1)));have q3_:=(Zq (ZR h1));have q4_:=((X8 h2).imp (fun h=>(ZQ h)) (fun h=>(ZQ h)));have q5_:=(Z1 h3);have q6_:=(Y7 h4);have q7_:=(Z1 (Qw (Qw h5)));have q8_:=(Z1 (Jk (Qw h5)));have q9_:=(Z1 (Jk h5));have q10_:=(Zq h6);(try have bq_:=hp_math_Atan2);(try have n3_:=ZS hr3);(try have n4_:=ZS hr4);have hv0_:=hv0.1;(try dsimp only);first|exact UU (by omega)|exact Vg (YR h1) (by omega)|exact Vj (YR h1) (XI h2) hr4 hr5 hr6 hr7 hr8 h5 h6 hr9|exact Vj (YR h1) (XI h2) hr3 hr10 hr11 hr12 hr13 h7 h8 hr14|exact Vi (YR h1) (XI h2) hr4 hr5 hr6 hr7 hr8 h5 h6|exact Vi (YR h1) (XI h2) hr3 hr10 hr11 hr12 hr13 h7 h8|exact False.elim ho0))
      ·exact TC.skip (TE.nb (TE.next (TC.region (TL.run 2 [] [(1,.p0 b1),(4,.i r2),(50,.i (w64 (s+1)))] rfl {} (TL.rw 50 (.i (w64 (s+1))) (.i (s+1)) Kr (int_eq (by have q0_:=(Zq (Zt (Zt (Zt h1))));have q1_:=(Zq (ZR (Zt (Zt h1))));have q2_:=(Zq (ZR (Zt h1)));have q3_:=(Zq (ZR h1));have q4_:=((X8 h2).imp (fun h=>(ZQ h)) (fun h=>(ZQ h)));have q5_:=(Z1 h3);have q6_:=(Y7 h4);have q7_:=((X8 h5).imp (fun h=>((X8 h).imp (fun h=>(Zq h)) (fun h=>(Zq h)))) (fun h=>(Zq h)));(try have bq_:=hp_math_Atan2);(try have n3_:=ZS hr3);(try have n4_:=ZS hr4);have hv0_:=hv0.1;rw[Zn (x:=(s+1)) (by omega)])) (TL.done rfl (TE.again (x:=s) (s+1) (by have q0_:=(Zq (Zt (Zt (Zt h1))));have q1_:=(Zq (ZR (Zt (Zt h1))));have q2_:=(Zq (ZR (Zt h1)));have q3_:=(Zq (ZR h1));have q4_:=((X8 h2).imp (fun h=>(ZQ h)) (fun h=>(ZQ h)));have q5_:=(Z1 h3);have q6_:=(Y7 h4);have q7_:=((X8 h5).imp (fun h=>((X8 h).imp (fun h=>(Zq h)) (fun h=>(Zq h)))) (fun h=>(Zq h)));(try have bq_:=hp_math_Atan2);(try have n3_:=ZS hr3);(try have n4_:=ZS hr4);have hv0_:=hv0.1;first|exact Ot (YR h1) hv0 (of_decide_eq_true h3) h4 hr4 hr5 hr6 hr7 hr8 h5|exact Ou (YR h1) hv0 (of_decide_eq_true h3) h4 hr3 hr10 hr11 hr12 hr13 h7) (by have q0_:=(Zq (Zt (Zt (Zt h1))));have q1_:=(Zq (ZR (Zt (Zt h1))));have q2_:=(Zq (ZR (Zt h1)));have q3_:=(Zq (ZR h1));have q4_:=((X8 h2).imp (fun h=>(ZQ h)) (fun h=>(ZQ h)));have q5_:=(Z1 h3);have q6_:=(Y7 h4);have q7_:=((X8 h5).imp (fun h=>((X8 h).imp (fun h=>(Zq h)) (fun h=>(Zq h)))) (fun h=>(Zq h)));(try have bq_:=hp_math_Atan2);(try have n3_:=ZS hr3);(try have n4_:=ZS hr4);have hv0_:=hv0.1;(try clear hr4);(try clear hr3);(try clear hr5);(try clear hr6);(try clear hr7);(try clear hr8);(try clear hr9);(try clear hr10);(try clear hr11);(try clear hr12);(try clear hr13);(try clear hr14); omega) Kr (sb 4))))))))
     ·refine TC.snr (TL.run 1 [] [(1,.p0 b1),(4,.i r2),(6,.i r3),(50,.i s),(64,.i r3)] rfl {} (TL.call (some 65) [(1,.p0 b1),(4,.i r2),(6,.i r3),(50,.i s),(65,P.v (Zy r3))] (fun w hM=>KE r3 w (hT.sat hM)) Kr Kr ?_))
      generalize hr10:Zy r3=r10
      refine TL.run 4 [] [(1,.p0 b1),(4,.i r2),(6,.i r3),(50,.i s),(65,P.v r10),(67,.i (w64 (r3+1)))] rfl {} (TL.rw 67 (.i (w64 (r3+1))) (.i (r3+1)) Kr (int_eq (by have q0_:=(Zq (Zt (Zt (Zt h1))));have q1_:=(Zq (ZR (Zt (Zt h1))));have q2_:=(Zq (ZR (Zt h1)));have q3_:=(Zq (ZR h1));have q4_:=((X8 h2).imp (fun h=>(ZQ h)) (fun h=>(ZQ h)));have q5_:=(Z1 h3);have q6_:=(ZQ h4);(try have bq_:=hp_math_Atan2);(try have n3_:=ZS hr3);(try have n4_:=ZS hr4);have hv0_:=hv0.1;rw[Zn (x:=(r3+1)) (by omega)])) (TL.call (some 68) [(1,.p0 b1),(4,.i r2),(6,.i r3),(50,.i s),(65,P.v r10),(68,P.v (Zy (r3+1)))] (fun w hM=>KE (r3+1) w (hT.sat hM)) Kr Kr ?_))
      generalize hr11:Zy (r3+1)=r11
      refine TL.write 0 (fun b4=>[(1,.p0 b1),(4,.i r2),(6,.i r3),(7,.p0 b4),(50,.i s),(65,P.v r10),(68,P.v r11)]) (fun b4=>[Bk b4 (P.c P.zero) 36,Bk b1 (P.c v) 36]) (fun b4=>{}) (fun b4=>TL.write 0 (fun b5=>[(1,.p0 b1),(4,.i r2),(6,.i r3),(7,.p0 b4),(8,.p0 b5),(50,.i s),(65,P.v r10),(68,P.v r11)]) (fun b5=>[Bk b5 (P.c P.zero) 36,Bk b4 (P.c P.zero) 36,Bk b1 (P.c v) 36]) (fun b5=>{}) (fun b5=>TL.write 1 (fun _=>[(1,.p0 b1),(4,.i r2),(6,.i r3),(7,.p0 b4),(8,.p0 b5),(50,.i s),(68,P.v r11)]) (fun _=>[Bk b5 (P.c P.zero) 36,Bk b4 (P.c r10) 36,Bk b1 (P.c v) 36]) (fun _=>{}) (fun _=>TL.write 0 (fun _=>[(1,.p0 b1),(4,.i r2),(6,.i r3),(7,.p0 b4),(8,.p0 b5),(50,.i s)]) (fun _=>[Bk b5 (P.c r11) 36,Bk b4 (P.c r10) 36,Bk b1 (P.c v) 36]) (fun _=>{}) (fun _=>TL.ns (TC.draw 8 Kr Kr Kr (TQ.run 2 [1,2] [(1,.p0 b1),(4,.i r2),(6,.i r3),(7,.p0 b4),(8,.p0 b5),(50,.i s),(69,P.v r10),(70,P.v v)] rfl {} (TQ.call (some 71) [(1,.p0 b1),(4,.i r2),(6,.i r3),(7,.p0 b4),(8,.p0 b5),(50,.i s),(71,.i (ZC r10 v))] (fun w _=>Kw r10 v w) rfl Kr Kr ?_)))))))
      generalize hr12:ZC r10 v=r12
      refine TQ.run 5 [2,0] [(1,.p0 b1),(4,.i r2),(6,.i r3),(7,.p0 b4),(50,.i s),(71,.i r12),(72,P.v v),(73,P.v r11)] rfl {} (TQ.call (some 74) [(1,.p0 b1),(4,.i r2),(6,.i r3),(7,.p0 b4),(50,.i s),(71,.i r12),(74,.i (ZC v r11))] (fun w _=>Kw v r11 w) rfl Kr Kr ?_)
      generalize hr13:ZC v r11=r13
      refine TQ.run 8 [] [(1,.p0 b1),(4,.i r2),(6,.i r3),(7,.p0 b4),(9,.i r12),(10,.i r13),(50,.i s)] rfl {} (TQ.next rfl (TC.sr (TL.run 3 [] [(1,.p0 b1),(4,.i r2),(6,.i r3),(7,.p0 b4),(9,.i r12),(10,.i r13),(50,.i s),(77,.b (decide (r12≥0)))] rfl {} (TL.join 77 (decide (r12≥0)) 6 [] [] (fun β=>[(1,.p0 b1),(4,.i r2),(6,.i r3),(7,.p0 b4),(9,.i r12),(10,.i r13),(50,.i s),(80,.b (β&&(decide (r13>0))))]) Kr rfl {} {} (TL.run 7 [] [(1,.p0 b1),(4,.i r2),(6,.i r3),(7,.p0 b4),(9,.i r12),(10,.i r13),(50,.i s),(81,.b ((decide (r12≥0))&&(decide (r13>0))))] rfl {} (TL.join 81 ((decide (r12≥0))&&(decide (r13>0))) 20 [1,2,1,2] [] (fun β=>[(1,.p0 b1),(4,.i r2),(6,.i r3),(9,.i r12),(10,.i r13),(50,.i s),(94,.b (β&&(decide ((w64 ((w64 (r10.X*v.X))+(w64 (r10.Y*v.Y))))>0))))]) Kr rfl {} {} (TL.next rfl (TC.cond (((decide (r12≥0))&&(decide (r13>0)))&&(decide ((w64 ((w64 (r10.X*v.X))+(w64 (r10.Y*v.Y))))>0))) rfl Kr (fun h7=>?_) (fun h7=>?_)))))))))
      ·refine TC.seq (TC.sr (TL.run 3 [] [(6,.i r3),(97,.b (decide (r12≤r13)))] rfl {} (TL.next rfl (TC.cond (decide (r12≤r13)) rfl Kr (fun h8=>?_) (fun h8=>?_)))))
       ·refine TC.sr (TL.run 3 [] [(2,.i r3),(3,.i 0)] rfl {} (TL.next rfl (TC.ret (TE.rt (TE.rb (TE.rt (TE.rt (TE.rb (TE.rt (TE.rt ?_))))))))))
        exact TE.retM (.inl rfl) (r3,0) [] (.tuple #[.i r3,.i 0]) {} rfl (fun _ hM=>(hM.sub (sb 0)).fact (by have q0_:=(Zq (Zt (Zt (Zt h1))));have q1_:=(Zq (ZR (Zt (Zt h1))));have q2_:=(Zq (ZR (Zt h1)));have q3_:=(Zq (ZR h1));have q4_:=((X8 h2).imp (fun h=>(ZQ h)) (fun h=>(ZQ h)));have q5_:=(Z1 h3);have q6_:=(ZQ h4);have q7_:=(Z1 (Qw (Qw h7)));have q8_:=(Z1 (Jk (Qw h7)));have q9_:=(Z1 (Jk h7));have q10_:=(Z1 h8);(try have bq_:=hp_math_Atan2);(try have n3_:=ZS hr3);(try have n4_:=ZS hr4);have hv0_:=hv0.1;(try dsimp only);first|exact UU (by omega)|exact Vg (YR h1) (by omega)|exact Vj (YR h1) (XI h2) hr4 hr5 hr6 hr7 hr8 h5 h6 hr9|exact Vj (YR h1) (XI h2) hr3 hr10 hr11 hr12 hr13 h7 h8 hr14|exact Vi (YR h1) (XI h2) hr4 hr5 hr6 hr7 hr8 h5 h6|exact Vi (YR h1) (XI h2) hr3 hr10 hr11 hr12 hr13 h7 h8|exact False.elim ho0))
       ·refine TC.snr (TL.run 2 [] [(100,.i (w64 (r3+1)))] rfl {} (TL.rw 100 (.i (w64 (r3+1))) (.i (r3+1)) Kr (int_eq (by have q0_:=(Zq (Zt (Zt (Zt h1))));have q1_:=(Zq (ZR (Zt (Zt h1))));have q2_:=(Zq (ZR (Zt h1)));have q3_:=(Zq (ZR h1));have q4_:=((X8 h2).imp (fun h=>(ZQ h)) (fun h=>(ZQ h)));have q5_:=(Z1 h3);have q6_:=(ZQ h4);have q7_:=(Z1 (Qw (Qw h7)));have q8_:=(Z1 (Jk (Qw h7)));have q9_:=(Z1 (Jk h7));have q10_:=(Zq h8);(try have bq_:=hp_math_Atan2);(try have n3_:=ZS hr3);(try have n4_:=ZS hr4);have hv0_:=hv0.1;rw[Zn (x:=(r3+1)) (by omega)])) (TL.call (some 101) [(101,.i (ZO (r3+1)))] (fun w _=>Jz (r3+1) w) Kr Kr ?_)))
        generalize hr14:ZO (r3+1)=r14
        refine TL.run 5 [] [(2,.i r14),(3,.i 0)] rfl {} (TL.next rfl (TC.ret (TE.rb (TE.rt (TE.rt (TE.rb (TE.rt (TE.rt ?_))))))))
        exact TE.retM (.inl rfl) (r14,0) [] (.tuple #[.i r14,.i 0]) {} rfl (fun _ hM=>(hM.sub (sb 0)).fact (by have q0_:=(Zq (Zt (Zt (Zt h1))));have q1_:=(Zq (ZR (Zt (Zt h1))));have q2_:=(Zq (ZR (Zt h1)));have q3_:=(Zq (ZR h1));have q4_:=((X8 h2).imp (fun h=>(ZQ h)) (fun h=>(ZQ h)));have q5_:=(Z1 h3);have q6_:=(ZQ h4);have q7_:=(Z1 (Qw (Qw h7)));have q8_:=(Z1 (Jk (Qw h7)));have q9_:=(Z1 (Jk h7));have q10_:=(Zq h8);(try have bq_:=hp_math_Atan2);(try have n3_:=ZS hr3);(try have n4_:=ZS hr4);have hv0_:=hv0.1;(try dsimp only);first|exact UU (by omega)|exact Vg (YR h1) (by omega)|exact Vj (YR h1) (XI h2) hr4 hr5 hr6 hr7 hr8 h5 h6 hr9|exact Vj (YR h1) (XI h2) hr3 hr10 hr11 hr12 hr13 h7 h8 hr14|exact Vi (YR h1) (XI h2) hr4 hr5 hr6 hr7 hr8 h5 h6|exact Vi (YR h1) (XI h2) hr3 hr10 hr11 hr12 hr13 h7 h8|exact False.elim ho0))
      ·exact TC.skip (TE.nb (TE.next (TC.region (TL.run 2 [] [(1,.p0 b1),(4,.i r2),(50,.i (w64 (s+1)))] rfl {} (TL.rw 50 (.i (w64 (s+1))) (.i (s+1)) Kr (int_eq (by have q0_:=(Zq (Zt (Zt (Zt h1))));have q1_:=(Zq (ZR (Zt (Zt h1))));have q2_:=(Zq (ZR (Zt h1)));have q3_:=(Zq (ZR h1));have q4_:=((X8 h2).imp (fun h=>(ZQ h)) (fun h=>(ZQ h)));have q5_:=(Z1 h3);have q6_:=(ZQ h4);have q7_:=((X8 h7).imp (fun h=>((X8 h).imp (fun h=>(Zq h)) (fun h=>(Zq h)))) (fun h=>(Zq h)));(try have bq_:=hp_math_Atan2);(try have n3_:=ZS hr3);(try have n4_:=ZS hr4);have hv0_:=hv0.1;rw[Zn (x:=(s+1)) (by omega)])) (TL.done rfl (TE.again (x:=s) (s+1) (by have q0_:=(Zq (Zt (Zt (Zt h1))));have q1_:=(Zq (ZR (Zt (Zt h1))));have q2_:=(Zq (ZR (Zt h1)));have q3_:=(Zq (ZR h1));have q4_:=((X8 h2).imp (fun h=>(ZQ h)) (fun h=>(ZQ h)));have q5_:=(Z1 h3);have q6_:=(ZQ h4);have q7_:=((X8 h7).imp (fun h=>((X8 h).imp (fun h=>(Zq h)) (fun h=>(Zq h)))) (fun h=>(Zq h)));(try have bq_:=hp_math_Atan2);(try have n3_:=ZS hr3);(try have n4_:=ZS hr4);have hv0_:=hv0.1;first|exact Ot (YR h1) hv0 (of_decide_eq_true h3) h4 hr4 hr5 hr6 hr7 hr8 h5|exact Ou (YR h1) hv0 (of_decide_eq_true h3) h4 hr3 hr10 hr11 hr12 hr13 h7) (by have q0_:=(Zq (Zt (Zt (Zt h1))));have q1_:=(Zq (ZR (Zt (Zt h1))));have q2_:=(Zq (ZR (Zt h1)));have q3_:=(Zq (ZR h1));have q4_:=((X8 h2).imp (fun h=>(ZQ h)) (fun h=>(ZQ h)));have q5_:=(Z1 h3);have q6_:=(ZQ h4);have q7_:=((X8 h7).imp (fun h=>((X8 h).imp (fun h=>(Zq h)) (fun h=>(Zq h)))) (fun h=>(Zq h)));(try have bq_:=hp_math_Atan2);(try have n3_:=ZS hr3);(try have n4_:=ZS hr4);have hv0_:=hv0.1;(try clear hr4);(try clear hr3);(try clear hr5);(try clear hr6);(try clear hr7);(try clear hr8);(try clear hr9);(try clear hr10);(try clear hr11);(try clear hr12);(try clear hr13);(try clear hr14); omega) Kr (sb 4))))))))
    ·refine TC.exit (TE.et (TE.et (TE.exit_same ?_)))
     exact TE.cut () (by have q0_:=(Zq (Zt (Zt (Zt h1))));have q1_:=(Zq (ZR (Zt (Zt h1))));have q2_:=(Zq (ZR (Zt h1)));have q3_:=(Zq (ZR h1));have q4_:=((X8 h2).imp (fun h=>(ZQ h)) (fun h=>(ZQ h)));have q5_:=(Zq h3);(try have bq_:=hp_math_Atan2);(try have n3_:=ZS hr3);(try have n4_:=ZS hr4);have hv0_:=hv0.1;first|exact OP (XI h2) hv0 (of_decide_eq_false h3)) Kr (sb 1)
   ·intro _ ho0
    exact TE.nr (TL.run 2 [] [(2,.i 0),(3,.i 0)] rfl {} (TL.next rfl (TC.ret (TE.retM (.inl rfl) (0,0) [] (.tuple #[.i 0,.i 0]) {} rfl (fun _ hM=>(hM.sub (sb 0)).fact (by have q0_:=(Zq (Zt (Zt (Zt h1))));have q1_:=(Zq (ZR (Zt (Zt h1))));have q2_:=(Zq (ZR (Zt h1)));have q3_:=(Zq (ZR h1));have q4_:=((X8 h2).imp (fun h=>(ZQ h)) (fun h=>(ZQ h)));(try have bq_:=hp_math_Atan2);(try have n3_:=ZS hr3);(try have n4_:=ZS hr4);(try dsimp only);first|exact UU (by omega)|exact Vg (YR h1) (by omega)|exact Vj (YR h1) (XI h2) hr4 hr5 hr6 hr7 hr8 h5 h6 hr9|exact Vj (YR h1) (XI h2) hr3 hr10 hr11 hr12 hr13 h7 h8 hr14|exact Vi (YR h1) (XI h2) hr4 hr5 hr6 hr7 hr8 h5 h6|exact Vi (YR h1) (XI h2) hr3 hr10 hr11 hr12 hr13 h7 h8|exact False.elim ho0))))))
end Go.Sky
end
section
namespace Go.Sky
open Go Go.Eng Go.Proofs
def QF (h_:Int) (length:Int):P×Int :=
 cond ((decide (length<0))||(decide (length>2000000))) (
  ((⟨0,0⟩:P),4)) (
  let r1:=QB h_
  let r2:=(Xx (w64 (length*r1)))
  let r3:=Jj h_
  let r4:=(Xx (w64 (length*r3)))
  ((⟨r2,r4⟩:P),0))
theorem LU {h r:Int} (hr:QB h=r):-16384≤r∧r≤16384:=by rw[DR] at hr;rw[← hr];exact MS (by omega)
theorem PQ {h r:Int} (hr:Jj h=r):-16384≤r∧r≤16384:=by
 unfold Jj at hr;exact LU hr
theorem Sz {l r:Int} (hl:0≤l∧l≤2000000) (hr:-16384≤r∧r≤16384):-4611686018427387904≤w64 (l*r)∧w64 (l*r)≤4611686018427387904:=by
 have:=KW hr (b:=l) (by omega)
 rw[Int.mul_comm r l] at this
 rw[Zn (by omega)];omega
set_option maxRecDepth 100000 in
theorem HH (h_:Int) (length:Int) (w:World) (hT:Uh w):Calls Tryz.prog 94 #[.int .i64 h_,.int .i64 length] w (Ret w (.tuple #[P.v ((QF h_ length).1),.int .i64 ((QF h_ length).2)])):=by
 refine Zk (vs:=[.i h_,.i length]) (w:=w) Tryz.func94 rfl Tryz.ntmps94 rfl (TC.sr (TL.nw 4 (fun b1=>.p0 b1) (fun b1=>Bk b1 (P.c P.zero) 36) (fun b1=>{}) (fun b1=>TL.r 2 [] [(5,.i 0)] {} (TL.ns (TC.sr (TL.r 3 [] [(8,.b (decide (length<0)))] {} (TL.j 8 (decide (length<0)) 6 [] [] (fun β=>[(11,.b (β||(decide (length>2000000))))]) Kr {} {} (TL.next rfl (TC.cond ((decide (length<0))||(decide (length>2000000))) rfl Kr (fun h1=>?_) (fun h1=>?_))))))))))
 ·exact TC.sr (TL.r 1 [] [(12,P.v P.zero)] {} (TL.s 0 (Bk b1 (P.c P.zero) 36) (fun _=>{}) (TL.r 3 [] [(5,.i 4)] {} (TL.next rfl (TC.ret (TE.rt (TE.ret [0] (.tuple #[P.v (⟨0,0⟩:P),.i 4]) {} (by unfold QF;refine eS (a:=((⟨0,0⟩:P),4)) (fun (z:P×Int)=>(.tuple #[P.v z.1,.i z.2]:Value)) ?_;exact Zj h1 (rfl)))))))))
 ·have q1_0:=(Zq (Zt h1))
  have q1_1:=(Zq (ZR h1))
  refine TC.snr (TL.r 2 [] [(13,.i length),(14,.i h_)] {} (TL.c 15 (QB h_) (fun r1=>.i r1) (fun w hM=>Ui h_ w (hT.sat hM)) {} (fun r1 hr1=>TL.r 4 [] [(16,.i (w64 (length*r1)))] {} (TL.callM (Γ:=Int) (fun g=>.i g) (fun g=>[.inr (XF (g=Xx (w64 (length*r1))))]) [] [Bk b1 (P.c P.zero) 36] (some 17) (fun g=>[(0,.i h_),(1,.i length),(4,.p0 b1),(17,.i g)]) (fun w hM=>GA (w64 (length*r1)) 16384 w hM.pass rfl (by subst hr1;exact Sz (by omega) (LU rfl))) Kr (fun g=>Kr) ?_))))
  rintro r2
  refine TL.conv [.inr (XF (r2=Xx (w64 (length*r1)))),Bk b1 (P.c P.zero) 36] (fun _ hM=>hM) (TL.know (fun w hM=>hM.fact_at 0 rfl) (fun hp_angle_near=>TL.forget [Bk b1 (P.c P.zero) 36] (.cons _ (List.Sublist.refl _)) ?_))
  have hr2:(Xx (w64 (length*r1)))=r2:=(hp_angle_near).symm
  refine TL.r 7 [] [(18,.i length),(19,.i h_)] {} (TL.c 20 (Jj h_) (fun r3=>.i r3) (fun w hM=>Wx h_ w (hT.sat hM)) {} (fun r3 hr3=>TL.r 9 [] [(21,.i (w64 (length*r3)))] {} (TL.callM (Γ:=Int) (fun g=>.i g) (fun g=>[.inr (XF (g=Xx (w64 (length*r3))))]) [] [Bk b1 (P.c P.zero) 36] (some 22) (fun g=>[(4,.p0 b1),(17,.i r2),(22,.i g)]) (fun w hM=>GA (w64 (length*r3)) 16384 w hM.pass rfl (by subst hr1 hr2 hr3;exact Sz (by omega) (PQ rfl))) Kr (fun g=>Kr) ?_)))
  rintro r4
  refine TL.conv [.inr (XF (r4=Xx (w64 (length*r3)))),Bk b1 (P.c P.zero) 36] (fun _ hM=>hM) (TL.know (fun w hM=>hM.fact_at 0 rfl) (fun hp_angle_near=>TL.forget [Bk b1 (P.c P.zero) 36] (.cons _ (List.Sublist.refl _)) ?_))
  have hr4:(Xx (w64 (length*r3)))=r4:=(hp_angle_near).symm
  exact TL.r 11 [] [(23,P.v (⟨r2,r4⟩:P))] {} (TL.s 0 (Bk b1 (P.c (⟨r2,r4⟩:P)) 36) (fun _=>{}) (TL.r 13 [] [(5,.i 0)] {} (TL.next rfl (TC.ret (TE.ret [0] (.tuple #[P.v (⟨r2,r4⟩:P),.i 0]) {} (by unfold QF;refine eS (a:=((⟨r2,r4⟩:P),0)) (fun (z:P×Int)=>(.tuple #[P.v z.1,.i z.2]:Value)) ?_;subst hr1 hr2 hr3 hr4;exact Zb h1 (rfl)))))))
end Go.Sky
end
section
namespace Go.Sky
open Go Go.Eng Go.Proofs
def XB (n:Int):Nat→Int→Int→Option Int
 | 0,_,_=>none
 | m+1,low,high=>cond (decide (low<high)) (
   cond (decide ((w64 ((w64 (low+(w64 ((w64 ((w64 (high-low))+1)).tdiv 2))))*(w64 (low+(w64 ((w64 ((w64 (high-low))+1)).tdiv 2))))))≤n)) (
    XB n m (w64 (low+(w64 ((w64 ((w64 (high-low))+1)).tdiv 2)))) high) (
    XB n m low (w64 ((w64 (low+(w64 ((w64 ((w64 (high-low))+1)).tdiv 2))))-1)))) (
   some (low))
def XC (n:Int):Int :=
 cond (decide (n≤0)) (
  0) (
  Y6 ((XB n 34 0 3037000499).getD 0) (fun low_2 =>
   low_2))
theorem UV (n:Int):∀ (j:Nat) (a b:Int),(0≤a∧b≤3037000499∧b-a<2 ^ j)→∃ R,XB n (j+1) a b=some R
 | 0,a,b,h=>by
  have e:(2:Int) ^ 0=1:=rfl
  have hk:decide (a<b)=false:=by simp;omega
  exact⟨a,by rw[XB,hk];rfl⟩
 | j+1,a,b,h=>by
  have e:(2:Int) ^ (j+1)=2*2 ^ j:=by rw[Int.pow_succ];omega
  by_cases hk:a<b
  ·have w1:w64 (w64 (b-a)+1)=b-a+1:=by rw[Zn (x:=b-a) (by omega),Zn (by omega)]
   have d1:(b-a+1).tdiv 2=(b-a+1)/2:=Int.tdiv_eq_ediv_of_nonneg (by omega)
   have w2:w64 ((w64 (w64 (b-a)+1)).tdiv 2)=(b-a+1)/2:=by rw[w1,d1,Zn (by omega)]
   have w3:w64 (a+w64 ((w64 (w64 (b-a)+1)).tdiv 2))=a+(b-a+1)/2:=by rw[w2,Zn (by omega)]
   rw[XB,decide_eq_true hk]
   simp only[cond_true,w3]
   cases decide (w64 ((a+(b-a+1)/2)*(a+(b-a+1)/2))≤n)
   ·rw[cond_false,Zn (by omega)]
    exact UV n j a _ (by omega)
   ·rw[cond_true]
    exact UV n j _ b (by omega)
  ·exact⟨a,by rw[XB,decide_eq_false hk];rfl⟩
set_option maxRecDepth 100000 in
theorem MZ (n:Int) (w:World):Calls Tryz.prog 128 #[.int .i64 n] w (Ret w (.int .i64 (XC n))):=by
 refine Zk (vs:=[.i n]) (w:=w) Tryz.func128 rfl Tryz.ntmps128 rfl (TC.sr (TL.r 1 [] [(2,.i 0)] {} (TL.ns (TC.sr (TL.r 2 [] [(7,.b (decide (n≤0)))] {} (TL.next rfl (TC.cond (decide (n≤0)) rfl Kr (fun h1=>?_) (fun h1=>?_))))))))
 ·exact TC.sr (TL.r 1 [] [(2,.i 0)] {} (TL.next rfl (TC.ret (TE.rt (TE.ret [] (.i 0) {} (by unfold XC;refine eS (fun z=>(.i z:Value)) ?_;exact Zj h1 (rfl)))))))
 ·have q1_0:=(Zq h1)
  refine TC.snr (TL.r 2 [] [(3,.i 0),(4,.i 3037000499)] {} (TL.ns ?_))
  obtain⟨R1,hR⟩:∃ R,XB n 34 0 3037000499=some R:=UV n 33 0 3037000499 (by omega)
  refine TC.cut (S:=Int) (fun low_2=>[(3,.i low_2)]) (fun low_2=>[]) (fun low_2=>R1=low_2) ?_ ?_
  ·refine TC.block (TC.lw (X:=Nat×Int×Int) (fun (m,low,high)=>[(0,.i n),(3,.i low),(4,.i high)]) (fun (m,low,high)=>[]) (fun (m,low,high)=>m) (fun (m,low,high)=>XB n m low high=some R1) ?_ (34,0,3037000499) hR Kr (sb 0))
   rintro⟨m,low,high⟩ hI
   rcases m with _|m
   ·cases hI
   refine TC.seq (TC.sr (TL.r 3 [] [(10,.b (decide (low<high)))] {} (TL.next rfl (TC.cond (decide (low<high)) rfl Kr (fun h2=>?_) (fun h2=>?_)))))
   ·refine TC.sn (TC.block (TC.sr (TL.r 8 [] [(5,.i (w64 (low+(w64 ((w64 ((w64 (high-low))+1)).tdiv 2)))))] {} (TL.nr (TL.r 5 [] [(22,.b (decide ((w64 ((w64 (low+(w64 ((w64 ((w64 (high-low))+1)).tdiv 2))))*(w64 (low+(w64 ((w64 ((w64 (high-low))+1)).tdiv 2))))))≤n)))] {} (TL.next rfl (TC.cond (decide ((w64 ((w64 (low+(w64 ((w64 ((w64 (high-low))+1)).tdiv 2))))*(w64 (low+(w64 ((w64 ((w64 (high-low))+1)).tdiv 2))))))≤n)) rfl Kr (fun h3=>?_) (fun h3=>?_))))))))
    ·exact TC.region (TL.r 2 [] [(3,.i (w64 (low+(w64 ((w64 ((w64 (high-low))+1)).tdiv 2)))))] {} (TL.done rfl (TE.nb (TE.again (x:=(m+1,low,high)) (m,w64 (low+(w64 ((w64 ((w64 (high-low))+1)).tdiv 2))),high) (by refine Eq.trans (Eq.symm ?_) hI;exact Zj h2 (Zj h3 (rfl))) (Nat.lt_succ_self _) Kr (sb 0)))))
    ·exact TC.region (TL.r 3 [] [(4,.i (w64 ((w64 (low+(w64 ((w64 ((w64 (high-low))+1)).tdiv 2))))-1)))] {} (TL.done rfl (TE.nb (TE.again (x:=(m+1,low,high)) (m,low,w64 ((w64 (low+(w64 ((w64 ((w64 (high-low))+1)).tdiv 2))))-1)) (by refine Eq.trans (Eq.symm ?_) hI;exact Zj h2 (Zb h3 (rfl))) (Nat.lt_succ_self _) Kr (sb 0)))))
   ·refine TC.exit (TE.et (TE.et (TE.exit_same ?_)))
    exact TE.cut low (Option.some.inj (hI.symm.trans (by exact Zb h2 (rfl)))) Kr (sb 0)
  ·rintro low_2 hJ
   exact TE.nr (TL.r 2 [] [(2,.i low_2)] {} (TL.next rfl (TC.ret (TE.ret [] (.i low_2) {} (by unfold XC;refine eS (fun z=>(.i z:Value)) ?_;exact Zb h1 (Ye ((congrArg (Option.getD · _) hR).trans hJ) (rfl)))))))
def XZ (a:P) (b_:P):Int×Int :=
 let r1:=ZN a b_
 let r2:=XC r1
 cond (decide ((w64 (r2*r2))<r1)) (
  (r2,w64 (r2+1))) (
  (r2,r2))
set_option maxRecDepth 100000 in
theorem Wc (a:P) (b_:P) (w:World):Calls Tryz.prog 71 #[P.v a,P.v b_] w (Ret w (.tuple #[.int .i64 ((XZ a b_).1),.int .i64 ((XZ a b_).2)])):=by
 refine Zk (vs:=[P.v a,P.v b_]) (w:=w) Tryz.func71 rfl Tryz.ntmps71 rfl (TC.sr (TL.nw 2 (fun b1=>.p0 b1) (fun b1=>Bk b1 (P.c a) 36) (fun b1=>{}) (fun b1=>TL.nw 3 (fun b2=>.p0 b2) (fun b2=>Bk b2 (P.c b_) 36) (fun b2=>{}) (fun b2=>TL.r 4 [] [(4,.i 0),(5,.i 0)] {} (TL.nr (TL.r 2 [1,0] [(8,P.v a),(9,P.v b_)] {} (TL.c 10 (ZN a b_) (fun r1=>.i r1) (fun w _=>JK a b_ w) {} (fun r1 hr1=>TL.r 4 [] [(6,.i r1)] {} (TL.nr (TL.r 1 [] [(11,.i r1)] {} (TL.c 12 (XC r1) (fun r2=>.i r2) (fun w _=>MZ r1 w) {} (fun r2 hr2=>TL.r 3 [] [(7,.i r2)] {} (TL.ns (TC.sr (TL.r 5 [] [(17,.b (decide ((w64 (r2*r2))<r1)))] {} (TL.next rfl (TC.cond (decide ((w64 (r2*r2))<r1)) rfl Kr (fun h1=>?_) (fun h1=>?_))))))))))))))))))
 ·exact TC.sr (TL.r 5 [] [(4,.i r2),(5,.i (w64 (r2+1)))] {} (TL.next rfl (TC.ret (TE.rt (TE.ret [] (.tuple #[.i r2,.i (w64 (r2+1))]) {} (by unfold XZ;refine eS (a:=(r2,w64 (r2+1))) (fun (z:Int×Int)=>(.tuple #[.i z.1,.i z.2]:Value)) ?_;subst hr1 hr2;exact Zj h1 (rfl)))))))
 ·exact TC.snr (TL.r 4 [] [(4,.i r2),(5,.i r2)] {} (TL.next rfl (TC.ret (TE.ret [] (.tuple #[.i r2,.i r2]) {} (by unfold XZ;refine eS (a:=(r2,r2)) (fun (z:Int×Int)=>(.tuple #[.i z.1,.i z.2]:Value)) ?_;subst hr1 hr2;exact Zb h1 (rfl))))))
def Yd (s:Zi):Int :=
 let r1:=ZI s.ID 0 255
 cond r1 (
  4) (
  let r2:=Y4 s.At
  cond (r2 != 0) (
   4) (
   let r3:=ZI s.Reach 1 1000000
   cond r3 (
    4) (
    let r4:=ZI s.RangeError 1 10000
    cond r4 (
     4) (
     let r5:=ZI s.AzimuthError 1 100
     cond r5 (
      4) (
      0)))))
set_option maxRecDepth 100000 in
theorem Ky (s:Zi) (w:World):Calls Tryz.prog 69 #[Zi.v s] w (Ret w (.int .i64 (Yd s))):=by
 refine Zk (vs:=[Zi.v s]) (w:=w) Tryz.func69 rfl Tryz.ntmps69 rfl (TC.sr (TL.nw 1 (fun b1=>.p0 b1) (fun b1=>Bk b1 (Zi.c s) 85) (fun b1=>{}) (fun b1=>TL.r 2 [] [(2,.i 0)] {} (TL.ns (TC.sr (TL.r 2 [0] [(4,.i s.ID)] {} (TL.c 5 (ZI s.ID 0 255) (fun r1=>.b r1) (fun w _=>Xe s.ID 0 255 w) {} (fun r1 hr1=>TL.r 4 [] [(6,.b r1)] {} (TL.split 6 r1 Kr (fun h1=>?_) (fun h1=>?_))))))))))
 ·exact TL.r 24 [] [(26,.b true)] {} (TL.next rfl (TC.condT rfl Kr (TC.sr (TL.r 1 [] [(2,.i 4)] {} (TL.next rfl (TC.ret (TE.rt (TE.ret [] (.i 4) {} (by unfold Yd;refine eS (fun z=>(.i z:Value)) ?_;subst hr1;exact Zj h1 (rfl))))))))))
 ·refine TL.r 6 [0] [(8,P.v s.At)] {} (TL.c 9 (Y4 s.At) (fun r2=>.i r2) (fun w _=>Vn s.At w) {} (fun r2 hr2=>TL.r 10 [] [(12,.b (r2 != 0))] {} (TL.split 12 (r2 != 0) Kr (fun h2=>?_) (fun h2=>?_))))
  ·exact TL.r 24 [] [(26,.b true)] {} (TL.next rfl (TC.condT rfl Kr (TC.sr (TL.r 1 [] [(2,.i 4)] {} (TL.next rfl (TC.ret (TE.rt (TE.ret [] (.i 4) {} (by unfold Yd;refine eS (fun z=>(.i z:Value)) ?_;subst hr1 hr2;exact Zb h1 (Zj h2 (rfl)))))))))))
  ·refine TL.r 12 [0] [(14,.i s.Reach)] {} (TL.c 15 (ZI s.Reach 1 1000000) (fun r3=>.b r3) (fun w _=>Xe s.Reach 1 1000000 w) {} (fun r3 hr3=>TL.r 15 [] [(17,.b r3)] {} (TL.split 17 r3 Kr (fun h3=>?_) (fun h3=>?_))))
   ·exact TL.r 24 [] [(26,.b true)] {} (TL.next rfl (TC.condT rfl Kr (TC.sr (TL.r 1 [] [(2,.i 4)] {} (TL.next rfl (TC.ret (TE.rt (TE.ret [] (.i 4) {} (by unfold Yd;refine eS (fun z=>(.i z:Value)) ?_;subst hr1 hr2 hr3;exact Zb h1 (Zb h2 (Zj h3 (rfl))))))))))))
   ·refine TL.r 17 [0] [(19,.i s.RangeError)] {} (TL.c 20 (ZI s.RangeError 1 10000) (fun r4=>.b r4) (fun w _=>Xe s.RangeError 1 10000 w) {} (fun r4 hr4=>TL.r 20 [] [(22,.b r4)] {} (TL.split 22 r4 Kr (fun h4=>?_) (fun h4=>?_))))
    ·exact TL.r 24 [] [(26,.b true)] {} (TL.next rfl (TC.condT rfl Kr (TC.sr (TL.r 1 [] [(2,.i 4)] {} (TL.next rfl (TC.ret (TE.rt (TE.ret [] (.i 4) {} (by unfold Yd;refine eS (fun z=>(.i z:Value)) ?_;subst hr1 hr2 hr3 hr4;exact Zb h1 (Zb h2 (Zb h3 (Zj h4 (rfl)))))))))))))
    ·refine TL.r 22 [0] [(24,.i s.AzimuthError)] {} (TL.c 25 (ZI s.AzimuthError 1 100) (fun r5=>.b r5) (fun w _=>Xe s.AzimuthError 1 100 w) {} (fun r5 hr5=>TL.r 24 [] [(26,.b r5)] {} (TL.next rfl (TC.cond r5 rfl Kr (fun h5=>?_) (fun h5=>?_)))))
     ·exact TC.sr (TL.r 1 [] [(2,.i 4)] {} (TL.next rfl (TC.ret (TE.rt (TE.ret [] (.i 4) {} (by unfold Yd;refine eS (fun z=>(.i z:Value)) ?_;subst hr1 hr2 hr3 hr4 hr5;exact Zb h1 (Zb h2 (Zb h3 (Zb h4 (Zj h5 (rfl)))))))))))
     ·exact TC.snr (TL.r 1 [] [(2,.i 0)] {} (TL.next rfl (TC.ret (TE.ret [] (.i 0) {} (by unfold Yd;refine eS (fun z=>(.i z:Value)) ?_;subst hr1 hr2 hr3 hr4 hr5;exact Zb h1 (Zb h2 (Zb h3 (Zb h4 (Zb h5 (rfl))))))))))
def ZM (p:Zm):Int :=
 let r1:=ZI p.Radar 0 255
 cond r1 (
  4) (
  let r2:=ZI p.Time 0 200000
  cond r2 (
   4) (
   let r3:=ZI p.Range 0 2000000
   cond r3 (
    4) (
    let r4:=ZI p.Azimuth 0 4095
    cond r4 (
     4) (
     let r5:=ZI p.Height 0 60000
     cond r5 (
      4) (
      let r6:=ZI p.Code (-1) 4095
      cond r6 (
       4) (
       0))))))
set_option maxRecDepth 100000 in
theorem JQ (p:Zm) (w:World):Calls Tryz.prog 90 #[Zm.v p] w (Ret w (.int .i64 (ZM p))):=by
 refine Zk (vs:=[Zm.v p]) (w:=w) Tryz.func90 rfl Tryz.ntmps90 rfl (TC.sr (TL.nw 1 (fun b1=>.p0 b1) (fun b1=>Bk b1 (Zm.c p) 89) (fun b1=>{}) (fun b1=>TL.r 2 [] [(2,.i 0)] {} (TL.ns (TC.sr (TL.r 2 [0] [(4,.i p.Radar)] {} (TL.c 5 (ZI p.Radar 0 255) (fun r1=>.b r1) (fun w _=>Xe p.Radar 0 255 w) {} (fun r1 hr1=>TL.r 4 [] [(6,.b r1)] {} (TL.split 6 r1 Kr (fun h1=>?_) (fun h1=>?_))))))))))
 ·exact TL.r 28 [] [(30,.b true)] {} (TL.next rfl (TC.condT rfl Kr (TC.sr (TL.r 1 [] [(2,.i 4)] {} (TL.next rfl (TC.ret (TE.rt (TE.ret [] (.i 4) {} (by unfold ZM;refine eS (fun z=>(.i z:Value)) ?_;subst hr1;exact Zj h1 (rfl))))))))))
 ·refine TL.r 6 [0] [(8,.i p.Time)] {} (TL.c 9 (ZI p.Time 0 200000) (fun r2=>.b r2) (fun w _=>Xe p.Time 0 200000 w) {} (fun r2 hr2=>TL.r 9 [] [(11,.b r2)] {} (TL.split 11 r2 Kr (fun h2=>?_) (fun h2=>?_))))
  ·exact TL.r 28 [] [(30,.b true)] {} (TL.next rfl (TC.condT rfl Kr (TC.sr (TL.r 1 [] [(2,.i 4)] {} (TL.next rfl (TC.ret (TE.rt (TE.ret [] (.i 4) {} (by unfold ZM;refine eS (fun z=>(.i z:Value)) ?_;subst hr1 hr2;exact Zb h1 (Zj h2 (rfl)))))))))))
  ·refine TL.r 11 [0] [(13,.i p.Range)] {} (TL.c 14 (ZI p.Range 0 2000000) (fun r3=>.b r3) (fun w _=>Xe p.Range 0 2000000 w) {} (fun r3 hr3=>TL.r 14 [] [(16,.b r3)] {} (TL.split 16 r3 Kr (fun h3=>?_) (fun h3=>?_))))
   ·exact TL.r 28 [] [(30,.b true)] {} (TL.next rfl (TC.condT rfl Kr (TC.sr (TL.r 1 [] [(2,.i 4)] {} (TL.next rfl (TC.ret (TE.rt (TE.ret [] (.i 4) {} (by unfold ZM;refine eS (fun z=>(.i z:Value)) ?_;subst hr1 hr2 hr3;exact Zb h1 (Zb h2 (Zj h3 (rfl))))))))))))
   ·refine TL.r 16 [0] [(18,.i p.Azimuth)] {} (TL.c 19 (ZI p.Azimuth 0 4095) (fun r4=>.b r4) (fun w _=>Xe p.Azimuth 0 4095 w) {} (fun r4 hr4=>TL.r 19 [] [(21,.b r4)] {} (TL.split 21 r4 Kr (fun h4=>?_) (fun h4=>?_))))
    ·exact TL.r 28 [] [(30,.b true)] {} (TL.next rfl (TC.condT rfl Kr (TC.sr (TL.r 1 [] [(2,.i 4)] {} (TL.next rfl (TC.ret (TE.rt (TE.ret [] (.i 4) {} (by unfold ZM;refine eS (fun z=>(.i z:Value)) ?_;subst hr1 hr2 hr3 hr4;exact Zb h1 (Zb h2 (Zb h3 (Zj h4 (rfl)))))))))))))
    ·refine TL.r 21 [0] [(23,.i p.Height)] {} (TL.c 24 (ZI p.Height 0 60000) (fun r5=>.b r5) (fun w _=>Xe p.Height 0 60000 w) {} (fun r5 hr5=>TL.r 24 [] [(26,.b r5)] {} (TL.split 26 r5 Kr (fun h5=>?_) (fun h5=>?_))))
     ·exact TL.r 28 [] [(30,.b true)] {} (TL.next rfl (TC.condT rfl Kr (TC.sr (TL.r 1 [] [(2,.i 4)] {} (TL.next rfl (TC.ret (TE.rt (TE.ret [] (.i 4) {} (by unfold ZM;refine eS (fun z=>(.i z:Value)) ?_;subst hr1 hr2 hr3 hr4 hr5;exact Zb h1 (Zb h2 (Zb h3 (Zb h4 (Zj h5 (rfl))))))))))))))
     ·refine TL.r 26 [0] [(28,.i p.Code)] {} (TL.c 29 (ZI p.Code (-1) 4095) (fun r6=>.b r6) (fun w _=>Xe p.Code (-1) 4095 w) {} (fun r6 hr6=>TL.r 28 [] [(30,.b r6)] {} (TL.next rfl (TC.cond r6 rfl Kr (fun h6=>?_) (fun h6=>?_)))))
      ·exact TC.sr (TL.r 1 [] [(2,.i 4)] {} (TL.next rfl (TC.ret (TE.rt (TE.ret [] (.i 4) {} (by unfold ZM;refine eS (fun z=>(.i z:Value)) ?_;subst hr1 hr2 hr3 hr4 hr5 hr6;exact Zb h1 (Zb h2 (Zb h3 (Zb h4 (Zb h5 (Zj h6 (rfl))))))))))))
      ·exact TC.snr (TL.r 1 [] [(2,.i 0)] {} (TL.next rfl (TC.ret (TE.ret [] (.i 0) {} (by unfold ZM;refine eS (fun z=>(.i z:Value)) ?_;subst hr1 hr2 hr3 hr4 hr5 hr6;exact Zb h1 (Zb h2 (Zb h3 (Zb h4 (Zb h5 (Zb h6 (rfl)))))))))))
def Qu (s:Zi) (far:Int):Int×Int :=
 let r1:=Yd s
 cond (r1 != 0) (
  (0,r1)) (
  let r2:=ZI far 0 2000000
  cond r2 (
   (0,4)) (
   let r3:=X9 (w64 (far*s.AzimuthError)) 651
   let r4:=X9 far 23170
   (w64 ((w64 ((w64 (s.RangeError+r3.1))+r4.1))+2),0)))
set_option maxRecDepth 100000 in
theorem Bl (s:Zi) (far:Int) (w:World):Calls Tryz.prog 95 #[Zi.v s,.int .i64 far] w (Ret w (.tuple #[.int .i64 ((Qu s far).1),.int .i64 ((Qu s far).2)])):=by
 refine Zk (vs:=[Zi.v s,.i far]) (w:=w) Tryz.func95 rfl Tryz.ntmps95 rfl (TC.sr (TL.nw 2 (fun b1=>.p0 b1) (fun b1=>Bk b1 (Zi.c s) 85) (fun b1=>{}) (fun b1=>TL.r 3 [] [(4,.i 0),(5,.i 0)] {} (TL.ns (TC.sr (TL.r 1 [0] [(11,Zi.v s)] {} (TL.c 12 (Yd s) (fun r1=>.i r1) (fun w _=>Ky s w) {} (fun r1 hr1=>TL.r 3 [] [(6,.i r1)] {} (TL.nr (TL.r 2 [] [(14,.b (r1 != 0))] {} (TL.next rfl (TC.cond (r1 != 0) rfl Kr (fun h1=>?_) (fun h1=>?_)))))))))))))
 ·exact TC.sr (TL.r 3 [] [(4,.i 0),(5,.i r1)] {} (TL.next rfl (TC.ret (TE.rt (TE.ret [] (.tuple #[.i 0,.i r1]) {} (by unfold Qu;refine eS (a:=(0,r1)) (fun (z:Int×Int)=>(.tuple #[.i z.1,.i z.2]:Value)) ?_;subst hr1;exact Zj h1 (rfl)))))))
 ·refine TC.sn (TC.seq (TC.sr (TL.r 1 [] [(16,.i far)] {} (TL.c 17 (ZI far 0 2000000) (fun r2=>.b r2) (fun w _=>Xe far 0 2000000 w) {} (fun r2 hr2=>TL.next rfl (TC.cond r2 rfl Kr (fun h2=>?_) (fun h2=>?_)))))))
  ·exact TC.sr (TL.r 2 [] [(4,.i 0),(5,.i 4)] {} (TL.next rfl (TC.ret (TE.rt (TE.ret [] (.tuple #[.i 0,.i 4]) {} (by unfold Qu;refine eS (a:=(0,4)) (fun (z:Int×Int)=>(.tuple #[.i z.1,.i z.2]:Value)) ?_;subst hr1 hr2;exact Zb h1 (Zj h2 (rfl))))))))
  ·exact TC.snr (TL.r 4 [0] [(22,.i (w64 (far*s.AzimuthError)))] {} (TL.c 23 (X9 (w64 (far*s.AzimuthError)) 651) (fun r3=>.tuple #[.i r3.1,.i r3.2]) (fun w _=>K2 (w64 (far*s.AzimuthError)) 651 w) {} (fun r3 hr3=>TL.r 10 [] [(7,.i r3.1)] {} (TL.nr (TL.r 1 [] [(27,.i far)] {} (TL.c 28 (X9 far 23170) (fun r4=>.tuple #[.i r4.1,.i r4.2]) (fun w _=>K2 far 23170 w) {} (fun r4 hr4=>TL.r 7 [] [(9,.i r4.1)] {} (TL.nr (TL.r 9 [0] [(4,.i (w64 ((w64 ((w64 (s.RangeError+r3.1))+r4.1))+2))),(5,.i 0)] {} (TL.next rfl (TC.ret (TE.ret [] (.tuple #[.i (w64 ((w64 ((w64 (s.RangeError+r3.1))+r4.1))+2)),.i 0]) {} (by unfold Qu;refine eS (a:=(w64 ((w64 ((w64 (s.RangeError+r3.1))+r4.1))+2),0)) (fun (z:Int×Int)=>(.tuple #[.i z.1,.i z.2]:Value)) ?_;subst hr1 hr2 hr3 hr4;exact Zb h1 (Zb h2 (rfl)))))))))))))))
def ZH (s:Zi) (p:Zm):Zg×Int :=
 let r1:=Yd s
 cond (r1 != 0) (
  ((⟨0,⟨0,0⟩,0,0,0⟩:Zg),r1)) (
  let r2:=ZM p
  cond (r2 != 0) (
   ((⟨0,⟨0,0⟩,0,0,0⟩:Zg),r2)) (
   cond (p.Radar != s.ID) (
    ((⟨0,⟨0,0⟩,0,0,0⟩:Zg),1)) (
    let r3:=QF p.Azimuth p.Range
    let r4:=Qu s p.Range
    let r5:=Qv s.At r3.1
    let r6:=Y4 r5
    cond ((r6 != 0)||(decide (r4.1>1000000))) (
     ((⟨0,⟨0,0⟩,0,0,0⟩:Zg),8)) (
     ((⟨p.Time,r5,p.Height,p.Code,r4.1⟩:Zg),0)))))
set_option maxHeartbeats 4000000 in
set_option maxRecDepth 100000 in
theorem DW (s:Zi) (p:Zm) (w:World) (hT:Uh w):Calls Tryz.prog 42 #[Zi.v s,Zm.v p] w (Ret w (.tuple #[Zg.v ((ZH s p).1),.int .i64 ((ZH s p).2)])):=by
 refine Zk (vs:=[Zi.v s,Zm.v p]) (w:=w) Tryz.func42 rfl Tryz.ntmps42 rfl (TC.sr (TL.nw 2 (fun b1=>.p0 b1) (fun b1=>Bk b1 (Zi.c s) 85) (fun b1=>{}) (fun b1=>TL.nw 3 (fun b2=>.p0 b2) (fun b2=>Bk b2 (Zm.c p) 89) (fun b2=>{}) (fun b2=>TL.nw 4 (fun b3=>.p0 b3) (fun b3=>Bk b3 (Zg.c Zg.zero) 42) (fun b3=>{}) (fun b3=>TL.r 4 [] [(5,.i 0)] {} (TL.ns (TC.sr (TL.r 1 [2] [(13,Zi.v s)] {} (TL.c 14 (Yd s) (fun r1=>.i r1) (fun w _=>Ky s w) {} (fun r1 hr1=>TL.r 3 [] [(6,.i r1)] {} (TL.nr (TL.r 2 [] [(16,.b (r1 != 0))] {} (TL.next rfl (TC.cond (r1 != 0) rfl Kr (fun h1=>?_) (fun h1=>?_)))))))))))))))
 ·exact TC.sr (TL.r 2 [] [(17,Zg.v Zg.zero),(18,.i r1)] {} (TL.s 0 (Bk b3 (Zg.c Zg.zero) 42) (fun _=>{}) (TL.r 4 [] [(5,.i r1)] {} (TL.next rfl (TC.ret (TE.rt (TE.ret [0] (.tuple #[Zg.v (⟨0,⟨0,0⟩,0,0,0⟩:Zg),.i r1]) {} (by unfold ZH;refine eS (a:=((⟨0,⟨0,0⟩,0,0,0⟩:Zg),r1)) (fun (z:Zg×Int)=>(.tuple #[Zg.v z.1,.i z.2]:Value)) ?_;subst hr1;exact Zj h1 (rfl)))))))))
 ·refine TC.sn (TC.seq (TC.sr (TL.r 1 [1] [(19,Zm.v p)] {} (TL.c 20 (ZM p) (fun r2=>.i r2) (fun w _=>JQ p w) {} (fun r2 hr2=>TL.r 3 [] [(7,.i r2)] {} (TL.nr (TL.r 2 [] [(22,.b (r2 != 0))] {} (TL.next rfl (TC.cond (r2 != 0) rfl Kr (fun h2=>?_) (fun h2=>?_))))))))))
  ·exact TC.sr (TL.r 2 [] [(23,Zg.v Zg.zero),(24,.i r2)] {} (TL.s 0 (Bk b3 (Zg.c Zg.zero) 42) (fun _=>{}) (TL.r 4 [] [(5,.i r2)] {} (TL.next rfl (TC.ret (TE.rt (TE.ret [0] (.tuple #[Zg.v (⟨0,⟨0,0⟩,0,0,0⟩:Zg),.i r2]) {} (by unfold ZH;refine eS (a:=((⟨0,⟨0,0⟩,0,0,0⟩:Zg),r2)) (fun (z:Zg×Int)=>(.tuple #[Zg.v z.1,.i z.2]:Value)) ?_;subst hr1 hr2;exact Zb h1 (Zj h2 (rfl))))))))))
  ·refine TC.sn (TC.seq (TC.sr (TL.r 5 [1,2] [(29,.b (p.Radar != s.ID))] {} (TL.next rfl (TC.cond (p.Radar != s.ID) rfl Kr (fun h3=>?_) (fun h3=>?_))))))
   ·exact TC.sr (TL.r 1 [] [(30,Zg.v Zg.zero)] {} (TL.s 0 (Bk b3 (Zg.c Zg.zero) 42) (fun _=>{}) (TL.r 3 [] [(5,.i 1)] {} (TL.next rfl (TC.ret (TE.rt (TE.ret [0] (.tuple #[Zg.v (⟨0,⟨0,0⟩,0,0,0⟩:Zg),.i 1]) {} (by unfold ZH;refine eS (a:=((⟨0,⟨0,0⟩,0,0,0⟩:Zg),1)) (fun (z:Zg×Int)=>(.tuple #[Zg.v z.1,.i z.2]:Value)) ?_;subst hr1 hr2;exact Zb h1 (Zb h2 (Zj h3 (rfl)))))))))))
   ·refine TC.snr (TL.r 4 [1,1] [(33,.i p.Azimuth),(35,.i p.Range)] {} (TL.c 36 (QF p.Azimuth p.Range) (fun r3=>.tuple #[P.v r3.1,.i r3.2]) (fun w hM=>HH p.Azimuth p.Range w (hT.sat hM)) {} (fun r3 hr3=>TL.r 8 [] [(37,P.v r3.1),(38,.i r3.2)] {} (TL.nw 8 (fun b4=>.p0 b4) (fun b4=>Bk b4 (P.c P.zero) 36) (fun b4=>{}) (fun b4=>TL.s 0 (Bk b4 (P.c r3.1) 36) (fun _=>{}) (TL.r 11 [] [] {} (TL.nr (TL.r 3 [3,2] [(40,Zi.v s),(42,.i p.Range)] {} (TL.c 43 (Qu s p.Range) (fun r4=>.tuple #[.i r4.1,.i r4.2]) (fun w _=>Bl s p.Range w) {} (fun r4 hr4=>TL.r 9 [] [(10,.i r4.1)] {} (TL.ns ?_)))))))))))
    obtain⟨r5,hr5⟩:∃ r,Qv s.At r3.1=r:=⟨_,rfl⟩
    let Mr11_:Mem:=[Bk b4 (P.c r3.1) 36,Bk b3 (Zg.c Zg.zero) 42,Bk b2 (Zm.c p) 89,Bk b1 (Zi.c s) 85]
    refine TC.plan (G:=Nat) (base:=[(2,.p0 b1),(3,.p0 b2),(4,.p0 b3),(8,.p0 b4),(10,.i r4.1)]) (vals:=fun γ=>[.pt b2 1,.i p.Time,.pt b1 1,P.v s.At,P.v r3.1,P.v r5,.pt b2 4,.i p.Height,.pt b2 5,.i p.Code,.i r4.1,Zg.v (⟨p.Time,r5,p.Height,p.Code,r4.1⟩:Zg),.p0 γ,undef]) (writes:=[12,13]) (mem:=fun bs γ=>match bs with | [x12_,x13_]=>(bif x13_ then [Bk γ (Zg.c (⟨p.Time,r5,p.Height,p.Code,r4.1⟩:Zg)) 42] else bif x12_ then [Bk γ (Zg.c Zg.zero) 42] else [])++(Mr11_)|_=>[]) (0) (fun γ=>[(4,.p0 b3),(10,.i r4.1),(12,.p0 γ)]) Kr Kr Kr Kr Kr (fun γ=>Kr) (fun _ hM=>hM) (fun γ=>Kr) ?_ ?_
    ·skip
     exact Steps.run (i:=0) 5 [0,2,0,3,0] Mr11_ Kr Kr (fun S (γ:Nat) w hM=>by rw[mS2 rfl rfl] at hM;exact hM.sub (Zl (List.Sublist.refl _))) Kr (fun (γ:Nat)=>{}) (Steps.call (i:=5) 96 (fun (γ:Nat)=>#[P.v s.At,P.v r3.1]) (some 51) (fun (γ:Nat)=>P.v r5) (fun (γ:Nat)=>[Bk b4 (P.c r3.1) 36,Bk b3 (Zg.c Zg.zero) 42,Bk b2 (Zm.c p) 89,Bk b1 (Zi.c s) 85]) Kr (fun S (γ:Nat) w _ hM=>by rw[mS2 rfl rfl] at hM;exact hM.sub (Zl (List.Sublist.refl _))) (fun (γ:Nat) w _=>by have h:=Wq s.At r3.1 w;rw[hr5] at h;exact h) (fun (γ:Nat)=>Kr) (fun (γ:Nat)=>Kr) (Steps.run (i:=6) 12 [0,2,0,2,0,0] Mr11_ Kr Kr (fun S (γ:Nat) w hM=>by rw[mS2 rfl rfl] at hM;exact hM.sub (Zl (List.Sublist.refl _))) Kr (fun (γ:Nat)=>{}) (Steps.op (i:=12) (Γ:=Nat) (fun g (γ:Nat)=>g) (fun _=>[]) (fun b (γ:Nat)=>[Bk b (Zg.c Zg.zero) 42]) (fun S (γ:Nat)=>Mr11_) [12,13] (fun (γ:Nat)=>sV (Instr.alloc 42 true (.tuple #[]))) (some 12) (fun b (γ:Nat)=>.p0 b) (fun S (γ:Nat) hj hd hl=>by rw[mS2 hj (hl 13 Kr)];exact List.Perm.refl _) (fun S (γ:Nat) g hl=>by rw[mS2 (S:=upS S 12) (a0:=12) (a1:=13) rfl (hl 13 Kr)];exact(List.Perm.refl _).symm) (fun (γ:Nat) M' w hM=>Qd (v:=fun b=>.p0 b) (fun b M=>Kr) M' w hM) (fun (γ:Nat)=>Kr) (fun (γ:Nat) g=>Kr) Kr (fun (γ:Nat) g=>Kr) (Steps.put (i:=13) (fun (γ:Nat)=>[Bk γ (Zg.c Zg.zero) 42]) (fun (γ:Nat)=>[Bk γ (Zg.c (⟨p.Time,r5,p.Height,p.Code,r4.1⟩:Zg)) 42]) (fun S (γ:Nat)=>Mr11_) (fun (γ:Nat)=>sU (Instr.storeAt 42 (.p0 γ) (Zg.v (⟨p.Time,r5,p.Height,p.Code,r4.1⟩:Zg)))) none (fun S (γ:Nat) hj hd hl=>by rw[mS2 (hd 12 Kr) hj];exact List.Perm.refl _) (fun S (γ:Nat) _=>(List.Perm.refl _).symm) (fun (γ:Nat) M' w hM=>QD (fun b M=>Kr) (fun b M=>Kr) M' w hM) (fun (γ:Nat)=>Kr) (fun (γ:Nat)=>Kr) (Steps.done Kr)))))
    ·rintro b5
     refine TE.conv [Bk b5 (Zg.c (⟨p.Time,r5,p.Height,p.Code,r4.1⟩:Zg)) 42,Bk b4 (P.c r3.1) 36,Bk b3 (Zg.c Zg.zero) 42,Bk b2 (Zm.c p) 89,Bk b1 (Zi.c s) 85] (fun _ hM=>hM) (TE.next (TC.seq (TC.sr (TL.r 2 [0] [(59,P.v r5)] {} (TL.c 60 (Y4 r5) (fun r6=>.i r6) (fun w _=>Vn r5 w) {} (fun r6 hr6=>TL.r 5 [] [(62,.b (r6 != 0))] {} (TL.j 62 (r6 != 0) 8 [] [] (fun β=>[(65,.b (β||(decide (r4.1>1000000))))]) Kr {} {} (TL.next rfl (TC.cond ((r6 != 0)||(decide (r4.1>1000000))) rfl Kr (fun h4=>?_) (fun h4=>?_))))))))))
     ·exact TC.sr (TL.r 1 [] [(66,Zg.v Zg.zero)] {} (TL.s 2 (Bk b3 (Zg.c Zg.zero) 42) (fun _=>{}) (TL.r 3 [] [(5,.i 8)] {} (TL.next rfl (TC.ret (TE.rt (TE.ret [2] (.tuple #[Zg.v (⟨0,⟨0,0⟩,0,0,0⟩:Zg),.i 8]) {} (by unfold ZH;refine eS (a:=((⟨0,⟨0,0⟩,0,0,0⟩:Zg),8)) (fun (z:Zg×Int)=>(.tuple #[Zg.v z.1,.i z.2]:Value)) ?_;subst hr1 hr2 hr3 hr4 hr5 hr6;exact Zb h1 (Zb h2 (Zb h3 (Zj h4 (rfl))))))))))))
     ·exact TC.snr (TL.r 1 [0] [(67,Zg.v (⟨p.Time,r5,p.Height,p.Code,r4.1⟩:Zg))] {} (TL.s 2 (Bk b3 (Zg.c (⟨p.Time,r5,p.Height,p.Code,r4.1⟩:Zg)) 42) (fun _=>{}) (TL.r 3 [] [(5,.i 0)] {} (TL.next rfl (TC.ret (TE.ret [2] (.tuple #[Zg.v (⟨p.Time,r5,p.Height,p.Code,r4.1⟩:Zg),.i 0]) {} (by unfold ZH;refine eS (a:=((⟨p.Time,r5,p.Height,p.Code,r4.1⟩:Zg),0)) (fun (z:Zg×Int)=>(.tuple #[Zg.v z.1,.i z.2]:Value)) ?_;subst hr1 hr2 hr3 hr4 hr5 hr6;exact Zb h1 (Zb h2 (Zb h3 (Zb h4 (rfl)))))))))))
def Z4 (s:Zi) (t:Zg):Zm×Int :=
 let r1:=Yd s
 cond (r1 != 0) (
  ((⟨0,0,0,0,0,0⟩:Zm),r1)) (
  let r2:=Zz t
  cond (r2 != 0) (
   ((⟨0,0,0,0,0,0⟩:Zm),r2)) (
   let r3:=ZV s.At t.At s.Reach
   cond (!r3) (
    ((⟨0,0,0,0,0,0⟩:Zm),8)) (
    let r4:=XZ s.At t.At
    cond (!(P.eqb s.At t.At)) (
     let r5:=Q7 t.At s.At
     let r6:=(ofF r5).1
     ((⟨s.ID,t.Time,r4.1,r6,t.Height,t.Code⟩:Zm),0)) (
     ((⟨s.ID,t.Time,r4.1,0,t.Height,t.Code⟩:Zm),0)))))
set_option maxHeartbeats 4000000 in
set_option maxRecDepth 100000 in
theorem DX (s:Zi) (t:Zg) (w:World) (hT:Uh w):Calls Tryz.prog 32 #[Zi.v s,Zg.v t] w (Ret w (.tuple #[Zm.v ((Z4 s t).1),.int .i64 ((Z4 s t).2)])):=by
 refine Zk (vs:=[Zi.v s,Zg.v t]) (w:=w) Tryz.func32 rfl Tryz.ntmps32 rfl (TC.sr (TL.nw 2 (fun b1=>.p0 b1) (fun b1=>Bk b1 (Zi.c s) 85) (fun b1=>{}) (fun b1=>TL.nw 3 (fun b2=>.p0 b2) (fun b2=>Bk b2 (Zg.c t) 42) (fun b2=>{}) (fun b2=>TL.nw 4 (fun b3=>.p0 b3) (fun b3=>Bk b3 (Zm.c Zm.zero) 89) (fun b3=>{}) (fun b3=>TL.r 4 [] [(5,.i 0)] {} (TL.ns (TC.sr (TL.r 1 [2] [(11,Zi.v s)] {} (TL.c 12 (Yd s) (fun r1=>.i r1) (fun w _=>Ky s w) {} (fun r1 hr1=>TL.r 3 [] [(6,.i r1)] {} (TL.nr (TL.r 2 [] [(14,.b (r1 != 0))] {} (TL.next rfl (TC.cond (r1 != 0) rfl Kr (fun h1=>?_) (fun h1=>?_)))))))))))))))
 ·exact TC.sr (TL.r 2 [] [(15,Zm.v Zm.zero),(16,.i r1)] {} (TL.s 0 (Bk b3 (Zm.c Zm.zero) 89) (fun _=>{}) (TL.r 4 [] [(5,.i r1)] {} (TL.next rfl (TC.ret (TE.rt (TE.ret [0] (.tuple #[Zm.v (⟨0,0,0,0,0,0⟩:Zm),.i r1]) {} (by unfold Z4;refine eS (a:=((⟨0,0,0,0,0,0⟩:Zm),r1)) (fun (z:Zm×Int)=>(.tuple #[Zm.v z.1,.i z.2]:Value)) ?_;subst hr1;exact Zj h1 (rfl)))))))))
 ·refine TC.sn (TC.seq (TC.sr (TL.r 1 [1] [(17,Zg.v t)] {} (TL.c 18 (Zz t) (fun r2=>.i r2) (fun w _=>Xq t w) {} (fun r2 hr2=>TL.r 3 [] [(7,.i r2)] {} (TL.nr (TL.r 2 [] [(20,.b (r2 != 0))] {} (TL.next rfl (TC.cond (r2 != 0) rfl Kr (fun h2=>?_) (fun h2=>?_))))))))))
  ·exact TC.sr (TL.r 2 [] [(21,Zm.v Zm.zero),(22,.i r2)] {} (TL.s 0 (Bk b3 (Zm.c Zm.zero) 89) (fun _=>{}) (TL.r 4 [] [(5,.i r2)] {} (TL.next rfl (TC.ret (TE.rt (TE.ret [0] (.tuple #[Zm.v (⟨0,0,0,0,0,0⟩:Zm),.i r2]) {} (by unfold Z4;refine eS (a:=((⟨0,0,0,0,0,0⟩:Zm),r2)) (fun (z:Zm×Int)=>(.tuple #[Zm.v z.1,.i z.2]:Value)) ?_;subst hr1 hr2;exact Zb h1 (Zj h2 (rfl))))))))))
  ·refine TC.sn (TC.seq (TC.sr (TL.r 6 [2,1,2] [(24,P.v s.At),(26,P.v t.At),(28,.i s.Reach)] {} (TL.c 29 (ZV s.At t.At s.Reach) (fun r3=>.b r3) (fun w _=>Jp s.At t.At s.Reach w) {} (fun r3 hr3=>TL.r 8 [] [(30,.b (!r3))] {} (TL.next rfl (TC.cond (!r3) rfl Kr (fun h3=>?_) (fun h3=>?_))))))))
   ·exact TC.sr (TL.r 1 [] [(31,Zm.v Zm.zero)] {} (TL.s 0 (Bk b3 (Zm.c Zm.zero) 89) (fun _=>{}) (TL.r 3 [] [(5,.i 8)] {} (TL.next rfl (TC.ret (TE.rt (TE.ret [0] (.tuple #[Zm.v (⟨0,0,0,0,0,0⟩:Zm),.i 8]) {} (by unfold Z4;refine eS (a:=((⟨0,0,0,0,0,0⟩:Zm),8)) (fun (z:Zm×Int)=>(.tuple #[Zm.v z.1,.i z.2]:Value)) ?_;subst hr1 hr2 hr3;exact Zb h1 (Zb h2 (Zj h3 (rfl)))))))))))
   ·refine TC.snr (TL.r 4 [2,1] [(34,P.v s.At),(36,P.v t.At)] {} (TL.c 37 (XZ s.At t.At) (fun r4=>.tuple #[.i r4.1,.i r4.2]) (fun w _=>Wc s.At t.At w) {} (fun r4 hr4=>TL.r 10 [] [(8,.i r4.1)] {} (TL.nr (TL.r 10 [2,1,1,1] [(49,Zm.v (⟨s.ID,t.Time,r4.1,0,t.Height,t.Code⟩:Zm))] {} (TL.nw 10 (fun b4=>.p0 b4) (fun b4=>Bk b4 (Zm.c Zm.zero) 89) (fun b4=>{}) (fun b4=>TL.s 0 (Bk b4 (Zm.c (⟨s.ID,t.Time,r4.1,0,t.Height,t.Code⟩:Zm)) 89) (fun _=>{}) (TL.ns (TC.sr (TL.r 4 [3,2] [(51,P.v s.At),(53,P.v t.At)] {} (TL.v (sV (do eqGuard .neq 36 (.tmp 51) (.tmp 53) (P.v s.At) (P.v t.At);binOp .neq 36 (P.v s.At) (P.v t.At))) 54 (.b (!(P.eqb s.At t.At))) (fun w hM=>L2 (b:=P.eqb s.At t.At) Kr Kr w) {} (TL.next rfl (TC.cond (!(P.eqb s.At t.At)) rfl Kr (fun h4=>?_) (fun h4=>?_))))))))))))))
    ·refine TC.region (TL.r 4 [2,3] [(57,P.v t.At),(59,P.v s.At)] {} (TL.c 60 (Q7 t.At s.At) (fun r5=>P.v r5) (fun w _=>Wp t.At s.At w) {} (fun r5 hr5=>TL.callM (Γ:=Int×Int) (fun g=>.tuple #[.i g.1,.i g.2]) (fun g=>[.inr (XF (g.1=(ofF r5).1∧g.2=(ofF r5).2))]) [] [Bk b4 (Zm.c (⟨s.ID,t.Time,r4.1,0,t.Height,t.Code⟩:Zm)) 89,Bk b3 (Zm.c Zm.zero) 89,Bk b2 (Zg.c t) 42,Bk b1 (Zi.c s) 85] (some 61) (fun g=>[(4,.p0 b3),(10,.p0 b4),(61,.tuple #[.i g.1,.i g.2])]) (fun w hM=>MY r5 w hM.pass (hT.sat hM)) Kr (fun g=>Kr) ?_)))
     rintro⟨r6,r7⟩
     refine TL.conv [.inr (XF (r6=(ofF r5).1∧r7=(ofF r5).2)),Bk b4 (Zm.c (⟨s.ID,t.Time,r4.1,0,t.Height,t.Code⟩:Zm)) 89,Bk b3 (Zm.c Zm.zero) 89,Bk b2 (Zg.c t) 42,Bk b1 (Zi.c s) 85] (fun _ hM=>hM) (TL.know (fun w hM=>hM.fact_at 0 rfl) (fun hp_angle_Of=>TL.forget [Bk b4 (Zm.c (⟨s.ID,t.Time,r4.1,0,t.Height,t.Code⟩:Zm)) 89,Bk b3 (Zm.c Zm.zero) 89,Bk b2 (Zg.c t) 42,Bk b1 (Zi.c s) 85] (.cons _ (List.Sublist.refl _)) ?_))
     have hr6:(ofF r5).1=r6:=(hp_angle_Of.1).symm
     have hr7:(ofF r5).2=r7:=(hp_angle_Of.2).symm
     exact TL.r 10 [] [(62,.i r6),(64,.pt b4 3)] {} (TL.s 0 (Bk b4 (Zm.c (⟨s.ID,t.Time,r4.1,r6,t.Height,t.Code⟩:Zm)) 89) (fun _=>{}) (TL.nr (TL.r 1 [0] [(65,Zm.v (⟨s.ID,t.Time,r4.1,r6,t.Height,t.Code⟩:Zm))] {} (TL.s 1 (Bk b3 (Zm.c (⟨s.ID,t.Time,r4.1,r6,t.Height,t.Code⟩:Zm)) 89) (fun _=>{}) (TL.r 3 [] [(5,.i 0)] {} (TL.next rfl (TC.ret (TE.ret [1] (.tuple #[Zm.v (⟨s.ID,t.Time,r4.1,r6,t.Height,t.Code⟩:Zm),.i 0]) {} (by unfold Z4;refine eS (a:=((⟨s.ID,t.Time,r4.1,r6,t.Height,t.Code⟩:Zm),0)) (fun (z:Zm×Int)=>(.tuple #[Zm.v z.1,.i z.2]:Value)) ?_;subst hr1 hr2 hr3 hr4 hr5 hr6 hr7;exact Zb h1 (Zb h2 (Zb h3 (Zj h4 (rfl)))))))))))))
    ·exact TC.snr (TL.r 1 [0] [(65,Zm.v (⟨s.ID,t.Time,r4.1,0,t.Height,t.Code⟩:Zm))] {} (TL.s 1 (Bk b3 (Zm.c (⟨s.ID,t.Time,r4.1,0,t.Height,t.Code⟩:Zm)) 89) (fun _=>{}) (TL.r 3 [] [(5,.i 0)] {} (TL.next rfl (TC.ret (TE.ret [1] (.tuple #[Zm.v (⟨s.ID,t.Time,r4.1,0,t.Height,t.Code⟩:Zm),.i 0]) {} (by unfold Z4;refine eS (a:=((⟨s.ID,t.Time,r4.1,0,t.Height,t.Code⟩:Zm),0)) (fun (z:Zm×Int)=>(.tuple #[Zm.v z.1,.i z.2]:Value)) ?_;subst hr1 hr2 hr3 hr4;exact Zb h1 (Zb h2 (Zb h3 (Zb h4 (rfl)))))))))))
end Go.Sky
end
section
namespace Go.Sky
open Go Go.Eng
def EP (k:Nat):Bool:=decide (268412285≤sn k*sn k+cs k*cs k)&&decide (sn k*sn k+cs k*cs k≤268458627) &&
 decide ((sn k-sn (k+1))*(sn k-sn (k+1))+(cs k-cs (k+1))*(cs k-cs (k+1))≤729)
def HI (k j:Nat):Bool:=decide (423801*((sn k-sn (k+j))*(sn k-sn (k+j))+(cs k-cs (k+j))*(cs k-cs (k+j)))≤(16384*((j:Int)+1)-10416)*(16384*((j:Int)+1)-10416))
def We (f:Nat→Bool) (a:Nat):Nat→Bool
 | 0=>true
 | n+1=>f a&&We f (a+1) n
theorem RO (f:Nat→Bool) (a n:Nat):We f a (n+1)=(f a&&We f (a+1) n):=rfl
theorem KF (f:Nat→Bool) (n:Nat):∀ a,We f a n=true→∀ k,a≤k→k<a+n→f k=true:=by
 induction n with
 | zero=>intro a _ k h1 h2;omega
 | succ n ih =>
  intro a h k h1 h2
  rw[RO,Bool.and_eq_true] at h
  by_cases he:a=k
  ·rw[← he];exact h.1
  ·exact ih (a+1) h.2 k (by omega) (by omega)
set_option maxRecDepth 100000
theorem OQ:We EP 0 1024=true:=by kernel_rfl
theorem PR:We (fun k=>We (HI k) 0 100) 0 256=true:=by kernel_rfl
theorem PS:We (fun k=>We (HI k) 0 100) 256 256=true:=by kernel_rfl
theorem PT:We (fun k=>We (HI k) 0 100) 512 256=true:=by kernel_rfl
theorem PU:We (fun k=>We (HI k) 0 100) 768 256=true:=by kernel_rfl
end Go.Sky
end
section
namespace Go.Sky
open Go Go.Eng
theorem JF (x:Int):0≤x*x:=by
 rcases Int.le_total 0 x with g|g
 ·exact Int.mul_nonneg g g
 ·rw[← Int.neg_mul_neg];exact Int.mul_nonneg (by omega) (by omega)
theorem J1 {x y:Int} (h0:0≤x) (h:x≤y):x*x≤y*y:=Int.mul_le_mul h h h0 (by omega)
theorem N9 {x y:Int} (h1:-y≤x) (h2:x≤y):x*x≤y*y:=by
 rcases Int.le_total 0 x with g|g
 ·exact J1 g h2
 ·rw[← Int.neg_mul_neg];exact J1 (by omega) (by omega)
theorem LV {x y:Int} (hy:0≤y) (h:x*x≤y*y):-y≤x∧x≤y:=by
 constructor
 ·rcases Int.lt_or_le x (-y) with g|g
  ·exfalso
   have:=J1 (x:=y+1) (y:=-x) (by omega) (by omega)
   rw[Int.neg_mul_neg] at this
   have e:(y+1)*(y+1)=y*y+2*y+1:=by grind
   omega
  ·exact g
 ·rcases Int.lt_or_le y x with g|g
  ·exfalso
   have:=J1 (x:=y+1) (y:=x) (by omega) (by omega)
   have e:(y+1)*(y+1)=y*y+2*y+1:=by grind
   omega
  ·exact g
theorem tri {a b c d R S:Int} (hR:0≤R) (hS:0≤S) (h1:a*a+b*b≤R*R) (h2:c*c+d*d≤S*S):(a+c)*(a+c)+(b+d)*(b+d)≤(R+S)*(R+S):=by
 have hRS:0≤R*S:=Int.mul_nonneg hR hS
 have e1:(a*c+b*d)*(a*c+b*d)+(a*d-b*c)*(a*d-b*c)=(a*a+b*b)*(c*c+d*d):=by grind
 have e2:=JF (a*d-b*c)
 have e3:(a*a+b*b)*(c*c+d*d)≤(R*R)*(S*S):=Int.mul_le_mul h1 h2 (by have:=JF c;have:=JF d;omega) (JF R)
 have e4:(R*R)*(S*S)=(R*S)*(R*S):=by grind
 have key:=(LV hRS (x:=a*c+b*d) (by omega)).2
 have e7:(a+c)*(a+c)+(b+d)*(b+d)=(a*a+b*b)+(c*c+d*d)+2*(a*c+b*d):=by grind
 have e8:(R+S)*(R+S)=R*R+S*S+2*(R*S):=by grind
 omega
theorem S0 {a b R m:Int} (hm:0<m) (h:(m*a)*(m*a)+(m*b)*(m*b)≤(m*R)*(m*R)):a*a+b*b≤R*R:=by
 have e1:(m*a)*(m*a)+(m*b)*(m*b)=(m*m)*(a*a+b*b):=by grind
 have e2:(m*R)*(m*R)=(m*m)*(R*R):=by grind
 rw[e1,e2] at h
 exact Int.le_of_mul_le_mul_left h (Int.mul_pos hm hm)
theorem HJ {a b R m:Int} (hR:a*a+b*b≤R*R):(m*a)*(m*a)+(m*b)*(m*b)≤(m*R)*(m*R):=by
 have e1:(m*a)*(m*a)+(m*b)*(m*b)=(m*m)*(a*a+b*b):=by grind
 have e2:(m*R)*(m*R)=(m*m)*(R*R):=by grind
 rw[e1,e2]
 exact Int.mul_le_mul_of_nonneg_left hR (JF m)
theorem Wy {Q:Nat→Prop} (h1:∀ k,k<1024→Q k) (h2:∀ k,Q k→Q (k+1024)):∀ k,Q k:=by
 have key:∀ q i,i<1024→Q (i+1024*q):=by
  intro q
  induction q with
  | zero=>intro i hi;exact h1 i hi
  | succ q ih =>
   intro i hi
   rw[show i+1024*(q+1)=i+1024*q+1024 by omega]
   exact h2 _ (ih i hi)
 intro k
 have:=key (k/1024) (k%1024) (by omega)
 rwa [show k%1024+1024*(k/1024)=k by omega] at this
theorem DY (k:Nat):(268412285≤sn k*sn k+cs k*cs k∧sn k*sn k+cs k*cs k≤268458627)∧(sn k-sn (k+1))*(sn k-sn (k+1))+(cs k-cs (k+1))*(cs k-cs (k+1))≤729:=by
 refine Wy (Q:=fun k=>(268412285≤sn k*sn k+cs k*cs k∧sn k*sn k+cs k*cs k≤268458627)∧(sn k-sn (k+1))*(sn k-sn (k+1))+(cs k-cs (k+1))*(cs k-cs (k+1))≤729) ?_ ?_ k
 ·intro k hk
  have h:=KF _ 1024 0 OQ k (by omega) (by omega)
  unfold EP at h
  simp only[Bool.and_eq_true,decide_eq_true_eq] at h
  exact h
 ·intro k h
  rw[show k+1024+1=k+1+1024 by omega,VM,VM,VN,VN]
  generalize sn k=a at *;generalize cs k=b at *;generalize sn (k+1)=c at *;generalize cs (k+1)=d at *
  have e1:b*b + -a * -a=a*a+b*b:=by grind
  have e2:(b-d)*(b-d)+(-a - -c)*(-a - -c)=(a-c)*(a-c)+(b-d)*(b-d):=by grind
  rw[e1,e2];exact h
theorem BH (k j:Nat) (hj:j<100):423801*((sn k-sn (k+j))*(sn k-sn (k+j))+(cs k-cs (k+j))*(cs k-cs (k+j)))≤(16384*((j:Int)+1)-10416)*(16384*((j:Int)+1)-10416):=by
 refine Wy (Q:=fun k=>423801*((sn k-sn (k+j))*(sn k-sn (k+j))+(cs k-cs (k+j))*(cs k-cs (k+j)))≤(16384*((j:Int)+1)-10416)*(16384*((j:Int)+1)-10416)) ?_ ?_ k
 ·intro k hk
  have h:HI k j=true:=by
   by_cases c1:k<256
   ·exact KF _ 100 0 (KF _ 256 0 PR k (by omega) (by omega)) j (by omega) (by omega)
   by_cases c2:k<512
   ·exact KF _ 100 0 (KF _ 256 256 PS k (by omega) (by omega)) j (by omega) (by omega)
   by_cases c3:k<768
   ·exact KF _ 100 0 (KF _ 256 512 PT k (by omega) (by omega)) j (by omega) (by omega)
   ·exact KF _ 100 0 (KF _ 256 768 PU k (by omega) (by omega)) j (by omega) (by omega)
  exact of_decide_eq_true h
 ·intro k h
  rw[show k+1024+j=k+j+1024 by omega,VM,VM,VN,VN]
  generalize sn k=a at *;generalize cs k=b at *;generalize sn (k+j)=c at *;generalize cs (k+j)=d at *
  have e2:(b-d)*(b-d)+(-a - -c)*(-a - -c)=(a-c)*(a-c)+(b-d)*(b-d):=by grind
  rw[e2];exact h
def EQ (a b x y:Int):Prop:=0≤a*x+b*y∧4*((b*x-a*y)*(b*x-a*y))≤729*(x*x+y*y)
def Vk (h:Nat) (x y:Int):Prop:=EQ (sn h) (cs h) x y
set_option maxRecDepth 20000 in
theorem La {k:Nat} {x y:Int} (hk:k<4096) (h:Sec k x y):0≤sn (k+1)*x+cs (k+1)*y:=by
 have first:∀ (i:Nat) (x y:Int),i<1024→0≤x→0<y→0≤sn (i+1)*x+cs (i+1)*y:=by
  intro i x y hi hx hy
  rw[MU (by omega),MV (by omega)]
  have a:=Int.mul_nonneg (Int.natCast_nonneg (YZ (i+1))) hx
  have b:=Int.mul_nonneg (Int.natCast_nonneg (YZ (1024-(i+1)))) (Int.le_of_lt hy)
  omega
 have turn:∀ (i:Nat) (x y:Int),0≤sn (i+1) * -y+cs (i+1)*x→0≤sn (i+1024+1)*x+cs (i+1024+1)*y:=by
  intro i x y h
  rw[show i+1024+1=i+1+1024 by omega,VM,VN]
  generalize sn (i+1)=a at *;generalize cs (i+1)=b at *
  have e:b*x + -a*y=a * -y+b*x:=by grind
  rw[e];exact h
 rcases Wb hk h with a|a|a|a
 ·exact first k x y a.1 a.2.1 a.2.2.1
 ·have:=first (k-1024) (-y) x (by omega) a.2.2.1 a.2.2.2.1
  have t:=turn (k-1024) x y this
  rwa [show k-1024+1024=k by omega] at t
 ·have:=first (k-2048) (-x) (-y) (by omega) a.2.2.1 a.2.2.2.1
  have t:=turn (k-2048) (-y) x (by exact this)
  have t2:=turn (k-2048+1024) x y t
  rwa [show k-2048+1024+1024=k by omega] at t2
 ·have:=first (k-3072) y (-x) (by omega) a.2.1 a.2.2.1
  have t:=turn (k-3072) (-x) (-y) (by rw[Int.neg_neg];exact this)
  have t2:=turn (k-3072+1024) (-y) x (by exact t)
  have t3:=turn (k-3072+1024+1024) x y t2
  rwa [show k-3072+1024+1024+1024=k by omega] at t3
theorem OR (a b x y:Int):(a*x+b*y)*(a*x+b*y)≤(a*a+b*b)*(x*x+y*y):=by
 have e:(a*x+b*y)*(a*x+b*y)+(a*y-b*x)*(a*y-b*x)=(a*a+b*b)*(x*x+y*y):=by grind
 have:=JF (a*y-b*x)
 omega
theorem NA {k:Nat} {x y:Int} (hk:k<4096) (h:Sec k x y) :
  (cs k*x-sn k*y≤y*sn (k+1)-x*cs (k+1)→Vk k x y)∧(¬ cs k*x-sn k*y≤y*sn (k+1)-x*cs (k+1)→Vk (k+1) x y):=by
 have hc:=OR (cs k-cs (k+1)) (-(sn k-sn (k+1))) x y
 have hl:=(DY k).2
 have hf:=La hk h
 obtain⟨h1,h2,h3⟩:=h
 unfold Vk
 generalize sn k=a at *;generalize cs k=b at *;generalize sn (k+1)=c at *;generalize cs (k+1)=d at *
 have e0:(b-d)*(b-d) + -(a-c) * -(a-c)=(a-c)*(a-c)+(b-d)*(b-d):=by grind
 rw[e0] at hc
 have hn:0≤x*x+y*y:=by have:=JF x;have:=JF y;omega
 have h729:((a-c)*(a-c)+(b-d)*(b-d))*(x*x+y*y)≤729*(x*x+y*y):=Int.mul_le_mul_of_nonneg_right hl hn
 have e1:(b-d)*x + -(a-c)*y=(b*x-a*y)+(y*c-x*d):=by grind
 rw[e1] at hc
 generalize hp:b*x-a*y=p at *
 generalize hq:y*c-x*d=q at *
 constructor
 ·intro hle
  have s:=J1 (x:=2*p) (y:=p+q) (by omega) (by omega)
  have e2:(2*p)*(2*p)=4*(p*p):=by grind
  exact⟨by omega,by rw[hp];omega⟩
 ·intro hlt
  have s:=J1 (x:=2*q) (y:=p+q) (by omega) (by omega)
  have e2:(2*q)*(2*q)=4*(q*q):=by grind
  have e3:d*x-c*y=-q:=by rw[← hq];grind
  exact⟨hf,by rw[e3,Int.neg_mul_neg];omega⟩
theorem Vk.round {k:Nat} {x y:Int} (h:Vk k x y):Vk (k%4096) x y:=by
 unfold Vk at *
 rw[G5,G6];exact h
section
variable {h:Nat} {x y r:Int}
theorem Ig (hN:Vk h x y) (hr:0≤r) (h1:r*r≤x*x+y*y) (h2:x*x+y*y<(r+1)*(r+1)) :
  (16384*x-r*sn h)*(16384*x-r*sn h)+(16384*y-r*cs h)*(16384*y-r*cs h)≤(16*r+16401)*(16*r+16401):=by
 obtain⟨f,sd⟩:=hN
 have hU:=(DY h).1
 generalize sn h=a at *;generalize cs h=b at *
 obtain⟨U,eU⟩:∃ U,a*a+b*b=U:=⟨_,rfl⟩
 obtain⟨n,en⟩:∃ n,x*x+y*y=n:=⟨_,rfl⟩
 obtain⟨g,eg⟩:∃ g,a*x+b*y=g:=⟨_,rfl⟩
 obtain⟨c,ec⟩:∃ c,b*x-a*y=c:=⟨_,rfl⟩
 have lag:g*g+c*c=n*U:=by rw[← eg,← ec,← en,← eU];grind
 have ident:U*((16384*x-r*a)*(16384*x-r*a)+(16384*y-r*b)*(16384*y-r*b))=(16384*g-U*r)*(16384*g-U*r)+(16384*c)*(16384*c):=by
  have i1:(16384*x-r*a)*(16384*x-r*a)+(16384*y-r*b)*(16384*y-r*b)=268435456*n-32768*r*g+r*r*U:=by rw[← en,← eg,← eU];grind
  have i2:(16384*g-U*r)*(16384*g-U*r)+(16384*c)*(16384*c)=268435456*(g*g+c*c)-32768*g*U*r+U*r*(U*r):=by grind
  rw[i1,i2,lag];grind
 rw[eU] at hU
 rw[eg] at f
 rw[ec,en] at sd
 rw[en] at h1 h2
 have cc:=JF c
 have n0:0≤n:=by have:=JF r;omega
 have g1:g*g≤(16385*(r+1))*(16385*(r+1)):=by
  have q1:n*U≤((r+1)*(r+1))*268468225:=Int.mul_le_mul (by omega) (by omega) (by omega) (JF _)
  have q2:(16385*(r+1))*(16385*(r+1))=((r+1)*(r+1))*268468225:=by grind
  omega
 have g2:=(LV (by omega) g1).2
 have g3:(16383*r)*(16383*r)≤g*g:=by
  have q1:(r*r)*1073648411≤n*(4*U-729):=Int.mul_le_mul h1 (by omega) (by omega) n0
  have q2:n*(4*U-729)=4*(n*U)-729*n:=by grind
  have q3:(16383*r)*(16383*r)=(r*r)*268402689:=by grind
  have:=JF r
  omega
 have g4:16383*r≤g:=by
  rcases Int.lt_or_le g (16383*r) with hlt|hle
  ·exfalso
   have:=J1 (x:=g+1) (y:=16383*r) (by omega) (by omega)
   have e:(g+1)*(g+1)=g*g+2*g+1:=by grind
   omega
  ·exact hle
 have ur1:U*r≤268458627*r:=Int.mul_le_mul_of_nonneg_right (by omega) hr
 have ur2:268412285*r≤U*r:=Int.mul_le_mul_of_nonneg_right (by omega) hr
 have al1:16384*g-U*r≤39555*r+268451840:=by omega
 have al2:-(39555*r+268451840)≤16384*g-U*r:=by omega
 have c1:(2*c)*(2*c)≤(27*(r+1))*(27*(r+1)):=by
  have q1:(2*c)*(2*c)=4*(c*c):=by grind
  have q2:(27*(r+1))*(27*(r+1))=729*((r+1)*(r+1)):=by grind
  omega
 have c2:=LV (by omega) c1
 have b1:(16384*g-U*r)*(16384*g-U*r)≤(39555*r+268451840)*(39555*r+268451840):=N9 al2 al1
 have b2:(16384*c)*(16384*c)≤(221184*(r+1))*(221184*(r+1)):=N9 (by omega) (by omega)
 have b3:(39555*r+268451840)*(39555*r+268451840)+(221184*(r+1))*(221184*(r+1))≤(39555*r+268451840+221184*(r+1))*(39555*r+268451840+221184*(r+1)):=by
  have q:=Int.mul_nonneg (show 0≤39555*r+268451840 by omega) (show 0≤221184*(r+1) by omega)
  generalize 39555*r+268451840=A at *
  generalize 221184*(r+1)=B at *
  have e:(A+B)*(A+B)=A*A+B*B+2*(A*B):=by grind
  omega
 have b4:(39555*r+268451840+221184*(r+1))*(39555*r+268451840+221184*(r+1))≤(16383*(16*r+16401))*(16383*(16*r+16401)):=J1 (by omega) (by omega)
 have b5:(16383*(16*r+16401))*(16383*(16*r+16401))≤U*((16*r+16401)*(16*r+16401)):=by
  have q:(16383*(16*r+16401))*(16383*(16*r+16401))=268402689*((16*r+16401)*(16*r+16401)):=by grind
  rw[q]
  exact Int.mul_le_mul_of_nonneg_right (by omega) (JF _)
 refine Int.le_of_mul_le_mul_left (a:=U) ?_ (by omega)
 omega
theorem S1 {p:Int} (hN:Vk h x y) (hr:0≤r) (h1:r*r≤x*x+y*y) (h2:x*x+y*y<(r+1)*(r+1)) (hp:0≤p) {m:Int} (hm1:p-r≤m) (hm2:r-p≤m) :
  (16384*x-p*sn h)*(16384*x-p*sn h)+(16384*y-p*cs h)*(16384*y-p*cs h)≤(16384*m+16*p+16401)*(16384*m+16*p+16401):=by
 have hE:=Ig hN hr h1 h2
 have hU:=(DY h).1
 generalize sn h=a at *;generalize cs h=b at *
 by_cases c:r≤p
 ·have q1:(-((p-r)*a))*(-((p-r)*a))+(-((p-r)*b))*(-((p-r)*b))≤(16385*(p-r))*(16385*(p-r)):=by
   have e1:(-((p-r)*a))*(-((p-r)*a))+(-((p-r)*b))*(-((p-r)*b))=((p-r)*(p-r))*(a*a+b*b):=by grind
   have e2:(16385*(p-r))*(16385*(p-r))=((p-r)*(p-r))*268468225:=by grind
   rw[e1,e2]
   exact Int.mul_le_mul_of_nonneg_left (by omega) (JF _)
  have t:=tri (by omega) (by omega) hE q1
  have e3:16384*x-r*a + -((p-r)*a)=16384*x-p*a:=by grind
  have e4:16384*y-r*b + -((p-r)*b)=16384*y-p*b:=by grind
  rw[e3,e4] at t
  exact Int.le_trans t (J1 (by omega) (by omega))
 ·have hrp:0<r:=by omega
  refine Int.le_trans ?_ (J1 (x:=16384*(r-p)+16*p+16401) (by omega) (by omega))
  refine S0 hrp ?_
  have q1:(16384*(r-p)*x)*(16384*(r-p)*x)+(16384*(r-p)*y)*(16384*(r-p)*y)≤(16384*(r-p)*(r+1))*(16384*(r-p)*(r+1)):=by
   refine HJ ?_
   omega
  have q2:=HJ (m:=p) hE
  have n1:0≤16384*(r-p)*(r+1):=Int.mul_nonneg (by omega) (by omega)
  have n2:0≤p*(16*r+16401):=Int.mul_nonneg hp (by omega)
  have t:=tri n1 n2 q1 q2
  have e3:16384*(r-p)*x+p*(16384*x-r*a)=r*(16384*x-p*a):=by grind
  have e4:16384*(r-p)*y+p*(16384*y-r*b)=r*(16384*y-p*b):=by grind
  rw[e3,e4] at t
  refine Int.le_trans t (J1 (by omega) ?_)
  have e5:r*(16384*(r-p)+16*p+16401)-(16384*(r-p)*(r+1)+p*(16*r+16401))=17*(r-p):=by grind
  omega
theorem HK {p A R e vx vy:Int} {g j:Nat} (hN:Vk h x y) (hr:0≤r) (h1:r*r≤x*x+y*y) (h2:x*x+y*y<(r+1)*(r+1)) (hp:0≤p) (hm1:p-r≤R-1) (hm2:r-p≤R-1)
  (hg:g=h+j∨h=g+j) (hj:(j:Int)+1≤A) (hA:A≤100) (hvx:-8192≤p*sn g-16384*vx∧p*sn g-16384*vx≤8192) (hvy:-8192≤p*cs g-16384*vy∧p*cs g-16384*vy≤8192)
  (he:651*(R+2)+p*A≤651*e):(x-vx)*(x-vx)+(y-vy)*(y-vy)≤e*e:=by
 have t1:=HJ (m:=651) (S1 hN hr h1 h2 hp hm1 hm2)
 have hch:423801*((sn h-sn g)*(sn h-sn g)+(cs h-cs g)*(cs h-cs g))≤(16384*((j:Int)+1)-10416)*(16384*((j:Int)+1)-10416):=by
  rcases hg with rfl|rfl
  ·exact BH h j (by omega)
  ·have:=BH g j (by omega)
   generalize sn g=a at *;generalize cs g=b at *;generalize sn (g+j)=c at *;generalize cs (g+j)=d at *
   have e:(c-a)*(c-a)+(d-b)*(d-b)=(a-c)*(a-c)+(b-d)*(b-d):=by grind
   rw[e];exact this
 have hch2:(651*(sn h-sn g))*(651*(sn h-sn g))+(651*(cs h-cs g))*(651*(cs h-cs g))≤(16384*A-10416)*(16384*A-10416):=by
  have e:(651*(sn h-sn g))*(651*(sn h-sn g))+(651*(cs h-cs g))*(651*(cs h-cs g))=423801*((sn h-sn g)*(sn h-sn g)+(cs h-cs g)*(cs h-cs g)):=by grind
  rw[e]
  exact Int.le_trans hch (J1 (by omega) (by omega))
 have t2:=HJ (m:=p) hch2
 have t3:(651*(p*sn g-16384*vx))*(651*(p*sn g-16384*vx))+(651*(p*cs g-16384*vy))*(651*(p*cs g-16384*vy))≤(651*11586)*(651*11586):=by
  refine HJ ?_
  have a:=N9 hvx.1 hvx.2
  have b:=N9 hvy.1 hvy.2
  omega
 have n2:0≤p*(16384*A-10416):=Int.mul_nonneg hp (by omega)
 have u1:=tri (by omega) n2 t1 t2
 have u2:=tri (by omega) (by decide) u1 t3
 generalize sn h=a at *;generalize cs h=b at *;generalize sn g=c at *;generalize cs g=d at *
 have e1:651*(16384*x-p*a)+p*(651*(a-c))+651*(p*c-16384*vx)=10665984*(x-vx):=by grind
 have e2:651*(16384*y-p*b)+p*(651*(b-d))+651*(p*d-16384*vy)=10665984*(y-vy):=by grind
 rw[e1,e2] at u2
 refine S0 (m:=10665984) (by decide) (Int.le_trans u2 (J1 (by omega) ?_))
 have e3:p*(16384*A-10416)=16384*(p*A)-10416*p:=by grind
 omega
end
end Go.Sky
end
