/- Lemmas toward the given statement (part 4 of 20): Flo Flob Ga SinF Gs. Each theorem states its own conditions; nothing is assumed beyond them. -/
import Derived.Test.YtmiemlhgkgfkeaaGreatDoorTw03
import Derived.Laws.FloatArith
import Derived.Test.YtmiemlhgkgfkeaaGreatDoorTw02
set_option maxRecDepth 100000
section
namespace Go.Eng
def Zn (x y:Nat):Nat:=(FloatKind.f64.format.add x y).getD 0
def YL (x y:Nat):Nat:=(FloatKind.f64.format.sub x y).getD 0
def fdiv (x y:Nat):Nat:=(FloatKind.f64.format.div x y).getD 0
def We (x:Nat):Nat:=x ^^^ 9223372036854775808
def fle (x y:Nat):Bool:=fcm x y==some .lt||fcm x y==some .eq
def fge (x y:Nat):Bool:=fcm x y==some .gt||fcm x y==some .eq
def f2i (x:Nat):Int:=((FloatKind.f64.decode x).toInt .zero).getD 0
def UZ (x:Nat):Nat:=FloatKind.f64.encode ((FloatKind.f64.decode x).integral .down)
section
variable {P:Program} {w:World} {t:TypeId} {x y:Nat}
theorem Xn (h:(FloatKind.f64.format.add x y).isSome=true):(sV (binOp .add t (.float .f64 x) (.float .f64 y))).run P w=.ok (.value (.float .f64 (Zn x y))) w:=by
 obtain⟨r,hr⟩:=dH.1 h
 rw[show Zn x y=r by unfold Zn;rw[hr];rfl]
 exact JY (run_float_arith w .add t .f64 x y r hr)
theorem Ua (h:(FloatKind.f64.format.sub x y).isSome=true):(sV (binOp .sub t (.float .f64 x) (.float .f64 y))).run P w=.ok (.value (.float .f64 (YL x y))) w:=by
 obtain⟨r,hr⟩:=dH.1 h
 rw[show YL x y=r by unfold YL;rw[hr];rfl]
 exact JY (run_float_arith w .sub t .f64 x y r hr)
theorem UM (h:(FloatKind.f64.format.div x y).isSome=true):(sV (binOp .quo t (.float .f64 x) (.float .f64 y))).run P w=.ok (.value (.float .f64 (fdiv x y))) w:=by
 obtain⟨r,hr⟩:=dH.1 h
 rw[show fdiv x y=r by unfold fdiv;rw[hr];rfl]
 exact JY (run_float_arith w .quo t .f64 x y r hr)
theorem Nj {src dst:TypeId} {k:IntKind} (hs:(P.underlying src).isSome=true) (hd:P.underlying dst=some (.int k)) (h:floatToIntVal .f64 x k=some (f2i x)) :
  (sV (convert src dst (.float .f64 x))).run P w=.ok (.value (.int k (f2i x))) w:=JY (run_convert_float_int w src dst .f64 k x _ hs hd h)
end
abbrev DD:=FloatKind.f64.format
theorem Bt:DD.signWeight=9223372036854775808:=rfl
theorem Pv:DD.binade=4503599627370496:=rfl
theorem Px:DD.infRung=9218868437227405312:=rfl
theorem MU:DD.leastPlace=-1074:=rfl
theorem CG:DD.fractionBits=52:=rfl
theorem Uz {m k:Nat} (h1:2 ^ k≤m) (h2:m<2 ^ (k+1)):m.log2=k:=by
 have h0:m≠0:=by have:=bF k;omega
 have a:=(Nat.le_log2 h0).2 h1
 have b:=(dE h0).2 h2
 omega
theorem H4 {s:Bool} {r:Nat} (h:r<9218868437227405312):DD.read (DD.word s r)=if r<4503599627370496 then .number s r (-1074) else .number s (4503599627370496+r%4503599627370496) (-1074+(r/4503599627370496-1:Nat)):=by
 have hm:DD.word s r%9223372036854775808=r:=by unfold Ieee.Format.word;rw[Bt];cases s <;> simp <;> omega
 have hd:(DD.word s r/9223372036854775808%2==1)=s:=by unfold Ieee.Format.word;rw[Bt];cases s <;> simp <;> omega
 unfold Ieee.Format.read
 simp only[Bt,Pv,Px,MU,hm,hd]
 by_cases h1:r<4503599627370496
 ·rw[if_pos h1,if_pos h1]
 ·rw[if_neg h1,if_neg h1,if_pos h]
theorem Ri (way:Ieee.Toward) (neg:Bool) (n drop:Nat):n/2 ^ (min drop (n.log2+2))≤way.cut neg n drop∧way.cut neg n drop≤n/2 ^ (min drop (n.log2+2))+1:=by
 unfold Ieee.Toward.cut
 simp only[gD]
 refine⟨gG _ _,Nat.add_le_add_left (Bool.toNat_le _) _⟩
theorem MV (neg:Bool) (n:Nat):Ieee.Toward.even.cut neg n 0=n:=by
 unfold Ieee.Toward.cut
 rw[Nat.zero_min]
 simp[Nat.mod_one]
def Lw (m:Nat) (p e:Int):Prop:=m=0∨(m.log2:Int)+p<e∨(m=2 ^ m.log2∧(m.log2:Int)+p=e)
theorem T9 (neg:Bool) {n drop:Nat} (h:n%2 ^ (min drop (n.log2+2))=0):Ieee.Toward.even.cut neg n drop=n/2 ^ (min drop (n.log2+2)):=by
 unfold Ieee.Toward.cut
 have hp:=bF (min drop (n.log2+2))
 simp only[gD,h]
 have h1:decide (2 ^ (min drop (n.log2+2))<2*0)=false:=decide_eq_false (by omega)
 have h2:(2 ^ (min drop (n.log2+2))==2*0)=false:=by
  generalize 2 ^ (min drop (n.log2+2))=q at hp
  cases q with
  | zero=>omega
  | succ q=>rfl
 rw[h1,h2];rfl
theorem Jy (s:Bool) {m:Nat} {p e:Int} (h:Lw m p e) (h0:0≤e) (h1:e≤1000) :
  ∃ m' p',DD.read (DD.nearest s m p)=.number s m' p'∧Lw m' p' e∧(m≠0→0≤(m.log2:Int)+p→m'≠0∧0≤(m'.log2:Int)+p'):=by
 unfold Lw at h ⊢
 by_cases hm:m=0
 ·refine⟨0,-1074,?_,.inl rfl,fun h=>absurd hm h⟩
  unfold Ieee.Format.nearest
  rw[if_pos hm,H4 (by decide)]
  rfl
 have h:=h.resolve_left hm
 have l1:=dS hm
 have l2:m<2 ^ (m.log2+1):=cZ
 unfold Ieee.Format.nearest
 rw[if_neg hm]
 simp only[CG,MU,Pv,Px]
 generalize hL:m.log2=L at *
 have hc:((52:Nat):Int)=52:=rfl
 rw[hc]
 by_cases hA:-1074≤p+(L:Int)-52
 ·
  rw[show max (p+(L:Int)-52) (-1074)=p+L-52 by omega]
  have hk:(4503599627370496≤Ieee.Toward.even.cut s (m <<< (p-(p+(L:Int)-52)).toNat) (p+(L:Int)-52-p).toNat∧Ieee.Toward.even.cut s (m <<< (p-(p+(L:Int)-52)).toNat) (p+(L:Int)-52-p).toNat≤9007199254740992) ∧
    (m=2 ^ L→Ieee.Toward.even.cut s (m <<< (p-(p+(L:Int)-52)).toNat) (p+(L:Int)-52-p).toNat=4503599627370496):=by
   by_cases hl:L≤52
   ·rw[show (p-(p+(L:Int)-52)).toNat=52-L by omega,show (p+(L:Int)-52-p).toNat=0 by omega,MV,cB]
    have e1:(2:Nat) ^ L*2 ^ (52-L)=4503599627370496:=by rw[← bQ,show L+(52-L)=52 by omega]
    have e2:(2:Nat) ^ (L+1)*2 ^ (52-L)=9007199254740992:=by rw[← bQ,show L+1+(52-L)=53 by omega]
    have a1:=bO (2 ^ (52-L)) l1
    have a2:=cD l2 (bF (52-L))
    exact⟨by omega,fun h=>by rw[h];exact e1⟩
   ·rw[show (p-(p+(L:Int)-52)).toNat=0 by omega,show (p+(L:Int)-52-p).toNat=L-52 by omega,cR]
    have c:=Ri .even s m (L-52)
    have x:=T9 s (n:=m) (drop:=L-52)
    rw[hL,dO (by omega)] at c x
    have e1:(2:Nat) ^ L=4503599627370496*2 ^ (L-52):=by rw[show (4503599627370496:Nat)=2 ^ 52 from rfl,← bQ];congr 1;omega
    have e2:(2:Nat) ^ (L+1)=9007199254740992*2 ^ (L-52):=by rw[show (9007199254740992:Nat)=2 ^ 53 from rfl,← bQ];congr 1;omega
    have p1:=bF (L-52)
    have a1:4503599627370496≤m/2 ^ (L-52):=(Nat.le_div_iff_mul_le p1).2 (by omega)
    have a2:m/2 ^ (L-52)<9007199254740992:=(dG p1).2 (by omega)
    refine⟨by omega,fun h=>?_⟩
    rw[x (by rw[h,e1];exact Nat.mul_mod_left _ _)]
    rw[h,e1];exact Nat.mul_div_cancel _ p1
  generalize Ieee.Toward.even.cut s (m <<< (p-(p+(L:Int)-52)).toNat) (p+(L:Int)-52-p).toNat=k at hk
  obtain⟨E,hE⟩:∃ E:Nat,(p+(L:Int)-52 - -1074).toNat=E:=⟨_,rfl⟩
  have hE':(E:Int)=p+L+1022:=by omega
  have hLe:p+(L:Int)≤e:=by omega
  rw[hE,dO (by omega),H4 (by omega),if_neg (by omega)]
  have lg:∀ F,F<4503599627370496→(4503599627370496+F).log2=52:=fun F hF=>Uz (by omega) (by omega)
  by_cases hk2:k=9007199254740992
  ·have hn:¬ m=2 ^ L:=fun h=>by have:=hk.2 h;omega
   have e1:(E*4503599627370496+k)/4503599627370496=E+2:=by omega
   have e2:(E*4503599627370496+k)%4503599627370496=0:=by omega
   rw[e1,e2]
   refine⟨_,_,rfl,.inr ?_,fun _ _=>⟨by omega,?_⟩⟩ <;> rw[lg 0 (by decide)]
   ·have:(4503599627370496+0:Nat)=2 ^ 52:=rfl
    rcases h with h|h
    ·by_cases h5:p+(L:Int)+1=e
     ·exact .inr ⟨this,by omega⟩
     ·exact .inl (by omega)
    ·exact absurd h.1 hn
   ·omega
  ·have e1:(E*4503599627370496+k)/4503599627370496=E+1:=by omega
   have e2:(E*4503599627370496+k)%4503599627370496=k-4503599627370496:=by omega
   rw[e1,e2]
   refine⟨_,_,rfl,.inr ?_,fun _ _=>⟨by omega,?_⟩⟩ <;> rw[lg _ (by omega)]
   ·rcases h with h|h
    ·exact .inl (by omega)
    ·have h6:=hk.2 h.1
     subst h6
     exact .inr ⟨rfl,by omega⟩
   ·omega
 ·
  have h:(L:Int)+p<e:=by omega
  rw[show max (p+(L:Int)-52) (-1074)=-1074 by omega]
  have hk:Ieee.Toward.even.cut s (m <<< (p - -1074).toNat) (-1074-p).toNat≤4503599627370496:=by
   by_cases hp:-1074≤p
   ·rw[show (-1074-p).toNat=0 by omega,MV,cB]
    obtain⟨q,hq⟩:∃ q:Nat,(p - -1074).toNat=q:=⟨_,rfl⟩
    rw[hq]
    have a2:=cD l2 (bF q)
    rw[← bQ] at a2
    have a3:2 ^ (L+1+q)≤2 ^ 52:=bP (by decide) (by omega)
    have:(2:Nat) ^ 52=4503599627370496:=rfl
    omega
   ·rw[show (p - -1074).toNat=0 by omega,cR]
    have c:=Ri .even s m (-1074-p).toNat
    rw[hL] at c
    obtain⟨q,hq⟩:∃ q:Nat,(-1074-p).toNat=q:=⟨_,rfl⟩
    rw[hq] at c ⊢
    by_cases hd:q≤L+2
    ·rw[dO hd] at c
     have a1:m/2 ^ q<4503599627370496:=by
      rw[dG (bF q)]
      have a3:2 ^ (L+1)≤2 ^ (52+q):=bP (by decide) (by omega)
      rw[bQ 2 52 q,show (2:Nat) ^ 52=4503599627370496 from rfl] at a3
      omega
     omega
    ·rw[Nat.min_eq_right (by omega)] at c
     have a1:m/2 ^ (L+2)=0:=Nat.div_eq_of_lt (bV l2 (bP (by decide) (by omega)))
     omega
  generalize Ieee.Toward.even.cut s (m <<< (p - -1074).toNat) (-1074-p).toNat=k at hk
  rw[show ((-1074:Int) - -1074).toNat=0 by decide,eF,bB,dO (by omega),H4 (by omega)]
  by_cases hk2:k<4503599627370496
  ·rw[if_pos hk2]
   refine⟨_,_,rfl,?_,fun _ _=>by omega⟩
   by_cases hk0:k=0
   ·exact .inl hk0
   ·have:=(dE hk0).2 (show k<2 ^ 52 by omega)
    exact .inr (.inl (by omega))
  ·rw[if_neg hk2,show k=4503599627370496 by omega]
   refine⟨_,_,rfl,.inr (.inl ?_),fun _ _=>by omega⟩
   rw[show Nat.log2 (4503599627370496+4503599627370496%4503599627370496)=52 from Uz (by decide) (by decide)]
   have:(4503599627370496/4503599627370496-1:Nat)=0:=rfl
   omega
theorem Lw.mono {m:Nat} {p e f:Int} (h:Lw m p e) (hf:e≤f):Lw m p f:=by
 unfold Lw at *
 by_cases h2:e=f
 ·subst h2;exact h
 ·omega
class Bd (e:outParam Nat) (x:Nat):Prop where
 bd:e≤1000→∃ s m p,DD.read x=.number s m p∧Lw m p e
class Po (e:outParam Nat) (x:Nat):Prop where
 po:e≤1000→∃ m p,DD.read x=.number false m p∧Lw m p e
class Ge (e:outParam Nat) (x:Nat):Prop where
 ge:e≤1000→∃ s m p,DD.read x=.number s m p∧Lw m p e∧m≠0∧0≤(m.log2:Int)+p
class Pg (e:outParam Nat) (x:Nat):Prop where
 pg:e≤1000→∃ m p,DD.read x=.number false m p∧Lw m p e∧m≠0∧0≤(m.log2:Int)+p
section
variable {e f x y:Nat}
instance Zaw [h:Po e x]:Bd e x:=⟨fun he=>by obtain⟨m,p,h1,h2⟩:=h.po he;exact⟨_,_,_,h1,h2⟩⟩
instance Zax [h:Pg e x]:Po e x:=⟨fun he=>by obtain⟨m,p,h1,h2,_⟩:=h.pg he;exact⟨_,_,h1,h2⟩⟩
instance Zay [h:Pg e x]:Ge e x:=⟨fun he=>by obtain⟨m,p,h1,h2⟩:=h.pg he;exact⟨_,_,_,h1,h2⟩⟩
instance Zaz [h:Ge e x]:Bd e x:=⟨fun he=>by obtain⟨s,m,p,h1,h2,_⟩:=h.ge he;exact⟨_,_,_,h1,h2⟩⟩
theorem Ec {m n:Nat} (hm:m≠0) (hn:n≠0):(m*n).log2≤m.log2+n.log2+1:=by
 have a:m<2 ^ (m.log2+1):=cZ
 have b:n<2 ^ (n.log2+1):=cZ
 have c:=Nat.mul_lt_mul'' a b
 rw[← bQ] at c
 have:=(dE (Nat.mul_ne_zero hm hn)).2 c
 omega
theorem Bv {s t:Bool} {m n:Nat} {i j:Int} (hx:DD.read x=.number s m i) (hy:DD.read y=.number t n j):DD.mul x y=some (DD.nearest (s ^^ t) (m*n) (i+j)):=by
 unfold Ieee.Format.mul;rw[hx,hy];rfl
theorem G3 {m n:Nat} {i j:Int} (hm:Lw m i e) (hn:Lw n j f):Lw (m*n) (i+j) ((e+f:Nat):Int):=by
 unfold Lw at *
 by_cases h1:m=0
 ·exact .inl (by rw[h1,eF])
 by_cases h2:n=0
 ·exact .inl (by rw[h2,gH])
 have hl:=Ec h1 h2
 have a:m<2 ^ (m.log2+1):=cZ
 have b:n<2 ^ (n.log2+1):=cZ
 have h0:=Nat.mul_ne_zero h1 h2
 refine .inr ?_
 rcases hm.resolve_left h1 with c|⟨c1,c2⟩
 ·rcases hn.resolve_left h2 with d|⟨d1,d2⟩
  ·exact .inl (by omega)
  ·have g:m*n<2 ^ (m.log2+1+n.log2):=by
    rw[bQ,← d1];exact cD a (eG h2)
   have:=(dE h0).2 g
   exact .inl (by omega)
 ·rcases hn.resolve_left h2 with d|⟨d1,d2⟩
  ·have g:m*n<2 ^ (m.log2+(n.log2+1)):=by
    rw[bQ,← c1];exact fY b (eG h1)
   have:=(dE h0).2 g
   exact .inl (by omega)
  ·have g:m*n=2 ^ (m.log2+n.log2):=by rw[bQ,← c1,← d1]
   have g2:(m*n).log2=m.log2+n.log2:=by rw[g];exact Uz (aR _) (dY (by decide) (by omega))
   exact .inr ⟨by rw[g2];exact g,by omega⟩
theorem fmS [hx:Bd e x] [hy:Bd f y] (h:e≤1000∧f≤1000:=by decide):(FloatKind.f64.format.mul x y).isSome=true:=by
 obtain⟨s,m,i,h1,_⟩:=hx.bd h.1
 obtain⟨t,n,j,h2,_⟩:=hy.bd h.2
 rw[Bv h1 h2];rfl
instance bdM [hx:Bd e x] [hy:Bd f y]:Bd (e+f) (Zf x y):=⟨fun he=>by
 obtain⟨s,m,i,h1,k1⟩:=hx.bd (by omega)
 obtain⟨t,n,j,h2,k2⟩:=hy.bd (by omega)
 obtain⟨m',p',r1,r2,_⟩:=Jy (s ^^ t) (G3 k1 k2) (by omega) (by omega)
 refine⟨(s ^^ t:Bool),m',p',?_,r2.mono (by omega)⟩
 unfold Zf;rw[Bv h1 h2];exact r1⟩
instance poM [hx:Po e x] [hy:Po f y]:Po (e+f) (Zf x y):=⟨fun he=>by
 obtain⟨m,i,h1,k1⟩:=hx.po (by omega)
 obtain⟨n,j,h2,k2⟩:=hy.po (by omega)
 obtain⟨m',p',r1,r2,_⟩:=Jy (false ^^ false) (G3 k1 k2) (by omega) (by omega)
 refine⟨m',p',?_,r2.mono (by omega)⟩
 unfold Zf;rw[Bv h1 h2];exact r1⟩
instance poS [hx:Bd e x]:Po (e+e) (Zf x x):=⟨fun he=>by
 obtain⟨s,m,i,h1,k1⟩:=hx.bd (by omega)
 obtain⟨m',p',r1,r2,_⟩:=Jy (s ^^ s) (G3 k1 k1) (by omega) (by omega)
 refine⟨m',p',?_,r2.mono (by omega)⟩
 unfold Zf;rw[Bv h1 h1]
 rw[Bool.xor_self] at r1 ⊢;exact r1⟩
theorem BQ {m:Nat} {i b:Int} {K:Nat} (hm:Lw m i (b+K)) (hi:b≤i):m <<< (i-b).toNat≤2 ^ K:=by
 unfold Lw at hm
 rw[cB]
 by_cases h1:m=0
 ·rw[h1,eF];exact aN _
 have a:m<2 ^ (m.log2+1):=cZ
 rcases hm.resolve_left h1 with h|⟨h,h3⟩
 ·have c:=cD a (bF (i-b).toNat)
  rw[← bQ] at c
  exact Nat.le_of_lt (bV c (bP (by decide) (by omega)))
 ·rw[show K=m.log2+(i-b).toNat by omega,bQ,← h]
  exact aR _
theorem H5 {s t:Bool} {m n:Nat} {i j:Int} (hx:DD.read x=.number s m i) (hy:DD.read y=.number t n j):∃ tot:Int,tot=Ieee.signed s m (i-min i j).toNat+Ieee.signed t n (j-min i j).toNat ∧
  DD.add x y=some (DD.nearest (if tot=0 then s&&t else tot<0) tot.natAbs (min i j)):=by
 refine⟨_,rfl,?_⟩
 unfold Ieee.Format.add;rw[hx,hy];rfl
theorem CH {s t:Bool} {m n:Nat} {i j:Int} (hx:DD.read x=.number s m i) (hy:DD.read y=.number t n j):∃ tot:Int,tot=Ieee.signed s m (i-min i j).toNat+Ieee.signed (!t) n (j-min i j).toNat ∧
  DD.sub x y=some (DD.nearest (if tot=0 then s&&!t else tot<0) tot.natAbs (min i j)):=by
 refine⟨_,rfl,?_⟩
 unfold Ieee.Format.sub;rw[hx,hy];rfl
theorem BR (s:Bool) (m a:Nat):(Ieee.signed s m a).natAbs=m <<< a:=by
 unfold Ieee.signed;cases s
 ·exact eH (m <<< a)
 ·exact(Int.natAbs_neg _).trans (eH (m <<< a))
theorem Nk {s t:Bool} {m n:Nat} {i j:Int} (hm:Lw m i e) (hn:Lw n j f) {tot:Int} (h:tot=Ieee.signed s m (i-min i j).toNat+Ieee.signed t n (j-min i j).toNat) :
  Lw tot.natAbs (min i j) ((max e f+1:Nat):Int):=by
 unfold Lw
 by_cases h0:tot.natAbs=0
 ·exact .inl h0
 refine .inr ?_
 have s1:=BR s m (i-min i j).toNat
 have s2:=BR t n (j-min i j).toNat
 by_cases hz:0≤((max e f:Nat):Int)-min i j
 ·obtain⟨K,hK⟩:∃ K:Nat,K=(((max e f:Nat):Int)-min i j).toNat:=⟨_,rfl⟩
  have a1:=BQ (m:=m) (i:=i) (b:=min i j) (K:=K) (hm.mono (by omega)) (by omega)
  have a2:=BQ (m:=n) (i:=j) (b:=min i j) (K:=K) (hn.mono (by omega)) (by omega)
  have a3:tot.natAbs≤2 ^ (K+1):=by
   rw[eP]
   generalize m <<< (i-min i j).toNat=A at *
   generalize n <<< (j-min i j).toNat=B at *
   omega
  by_cases a5:tot.natAbs=2 ^ (K+1)
  ·have a4:tot.natAbs.log2=K+1:=by rw[a5];exact Uz (aR _) (dY (by decide) (by omega))
   exact .inr ⟨by rw[a4];exact a5,by omega⟩
  ·have a4:=(dE h0).2 (show tot.natAbs<2 ^ (K+1) by omega)
   exact .inl (by omega)
 ·exfalso
  have m0:m=0:=by unfold Lw at hm;omega
  have n0:n=0:=by unfold Lw at hn;omega
  rw[m0,cW] at s1
  rw[n0,cW] at s2
  rw[m0,n0] at h
  omega
theorem faS [hx:Bd e x] [hy:Bd f y] (h:e≤1000∧f≤1000:=by decide):(FloatKind.f64.format.add x y).isSome=true:=by
 obtain⟨s,m,i,h1,_⟩:=hx.bd h.1
 obtain⟨t,n,j,h2,_⟩:=hy.bd h.2
 obtain⟨_,_,h3⟩:=H5 h1 h2
 rw[h3];rfl
theorem fsS [hx:Bd e x] [hy:Bd f y] (h:e≤1000∧f≤1000:=by decide):(FloatKind.f64.format.sub x y).isSome=true:=by
 obtain⟨s,m,i,h1,_⟩:=hx.bd h.1
 obtain⟨t,n,j,h2,_⟩:=hy.bd h.2
 obtain⟨_,_,h3⟩:=CH h1 h2
 rw[h3];rfl
instance bdA [hx:Bd e x] [hy:Bd f y]:Bd (max e f+1) (Zn x y):=⟨fun he=>by
 obtain⟨s,m,i,h1,k1⟩:=hx.bd (by omega)
 obtain⟨t,n,j,h2,k2⟩:=hy.bd (by omega)
 obtain⟨tot,h3,h4⟩:=H5 h1 h2
 obtain⟨m',p',r1,r2,_⟩:=Jy (if tot=0 then s&&t else tot<0) (Nk k1 k2 h3) (by omega) (by omega)
 refine⟨(if tot=0 then s&&t else tot<0:Bool),m',p',?_,r2.mono (by omega)⟩
 unfold Zn;rw[h4];exact r1⟩
instance bdB [hx:Bd e x] [hy:Bd f y]:Bd (max e f+1) (YL x y):=⟨fun he=>by
 obtain⟨s,m,i,h1,k1⟩:=hx.bd (by omega)
 obtain⟨t,n,j,h2,k2⟩:=hy.bd (by omega)
 obtain⟨tot,h3,h4⟩:=CH h1 h2
 obtain⟨m',p',r1,r2,_⟩:=Jy (if tot=0 then s&&!t else tot<0) (Nk k1 k2 h3) (by omega) (by omega)
 refine⟨(if tot=0 then s&&!t else tot<0:Bool),m',p',?_,r2.mono (by omega)⟩
 unfold YL;rw[h4];exact r1⟩
theorem Jm (m a:Nat):Ieee.signed false m a=((m <<< a:Nat):Int):=rfl
instance poA [hx:Po e x] [hy:Po f y]:Po (max e f+1) (Zn x y):=⟨fun he=>by
 obtain⟨m,i,h1,k1⟩:=hx.po (by omega)
 obtain⟨n,j,h2,k2⟩:=hy.po (by omega)
 obtain⟨tot,h3,h4⟩:=H5 h1 h2
 obtain⟨m',p',r1,r2,_⟩:=Jy (if tot=0 then false&&false else tot<0) (Nk k1 k2 h3) (by omega) (by omega)
 rw[Jm,Jm] at h3
 have h5:0≤tot:=by rw[h3];exact Int.add_nonneg (aO _) (aO _)
 have e1:(if tot=0 then false&&false else decide (tot<0))=false:=by split;rfl;exact decide_eq_false (by omega)
 refine⟨m',p',?_,r2.mono (by omega)⟩
 unfold Zn;rw[h4]
 rw[e1] at r1 ⊢;exact r1⟩
instance pgA [hx:Po e x] [hy:Pg f y]:Pg (max e f+1) (Zn x y):=⟨fun he=>by
 obtain⟨m,i,h1,k1⟩:=hx.po (by omega)
 obtain⟨n,j,h2,k2,k3,k4⟩:=hy.pg (by omega)
 obtain⟨tot,h3,h4⟩:=H5 h1 h2
 obtain⟨m',p',r1,r2,r3⟩:=Jy (if tot=0 then false&&false else tot<0) (Nk k1 k2 h3) (by omega) (by omega)
 rw[Jm,Jm] at h3
 have h5:0≤tot:=by rw[h3];exact Int.add_nonneg (aO _) (aO _)
 have e1:(if tot=0 then false&&false else decide (tot<0))=false:=by split;rfl;exact decide_eq_false (by omega)
 have q1:2 ^ (n.log2+(j-min i j).toNat)≤n <<< (j-min i j).toNat:=by
  rw[cB,bQ];exact bO _ (dS k3)
 have h6:tot.natAbs=m <<< (i-min i j).toNat+n <<< (j-min i j).toNat:=by rw[h3,← gL];exact eH _
 generalize n <<< (j-min i j).toNat=B at q1 h6
 generalize m <<< (i-min i j).toNat=A at h6
 have q2:tot.natAbs≠0:=by have:=bF (n.log2+(j-min i j).toNat);omega
 have q3:n.log2+(j-min i j).toNat≤tot.natAbs.log2:=(Nat.le_log2 q2).2 (by omega)
 have r4:=r3 q2 (by omega)
 refine⟨m',p',?_,r2.mono (by omega),r4⟩
 unfold Zn;rw[h4]
 rw[e1] at r1 ⊢;exact r1⟩
theorem Iw {m n:Nat} {i j:Int} (hm:Lw m i e) (hm0:m≠0) (hn:n≠0) (hn2:0≤(n.log2:Int)+j) (more:Nat) (ly:n.log2≤m.log2+more) :
  Lw (2*(m <<< more/n)+(m <<< more%n != 0).toNat) (i-j-more-1) e:=by
 unfold Lw at *
 by_cases h0:2*(m <<< more/n)+(m <<< more%n != 0).toNat=0
 ·exact .inl h0
 refine .inr ?_
 have b:=Bool.toNat_le (m <<< more%n != 0)
 have a:m<2 ^ (m.log2+1):=cZ
 have a1:=dS hn
 rcases hm.resolve_left hm0 with h|⟨h,h3⟩
 ·have c:=cD a (bF more)
  rw[← bQ,← cB] at c
  obtain⟨k,hk⟩:∃ k,k=m.log2+1+more-n.log2:=⟨_,rfl⟩
  have d:m <<< more/n<2 ^ k:=by
   rw[dG (eG hn)]
   refine bV c ?_
   rw[show m.log2+1+more=k+n.log2 by omega,bQ]
   exact Nat.mul_le_mul_left _ a1
  have g:2*(m <<< more/n)+(m <<< more%n != 0).toNat<2 ^ (k+1):=by rw[eP];omega
  have:=(dE h0).2 g
  exact .inl (by omega)
 ·obtain⟨k,hk⟩:∃ k,k=m.log2+more-n.log2:=⟨_,rfl⟩
  have hD:m <<< more=2 ^ k*2 ^ n.log2:=by rw[cB,← bQ,show k+n.log2=m.log2+more by omega,bQ,← h]
  by_cases hn3:n=2 ^ n.log2
  ·have d:m <<< more/n=2 ^ k:=by rw[hD,← hn3];exact Nat.mul_div_cancel _ (eG hn)
   have d2:m <<< more%n=0:=by rw[hD,← hn3];exact Nat.mul_mod_left _ _
   rw[d,d2] at h0 ⊢
   have g:2*2 ^ k+((0:Nat) != 0).toNat=2 ^ (k+1):=by rw[eP,cS];rfl
   rw[g]
   have g2:(2 ^ (k+1)).log2=k+1:=Uz (aR _) (dY (by decide) (by omega))
   rw[g2]
   by_cases g3:(n.log2:Int)+j=0
   ·exact .inr ⟨rfl,by omega⟩
   ·exact .inl (by omega)
  ·have d:m <<< more/n<2 ^ k:=by
    rw[dG (eG hn),hD]
    exact fY (by omega) (bF k)
   have g:2*(m <<< more/n)+(m <<< more%n != 0).toNat<2 ^ (k+1):=by rw[eP];omega
   have:=(dE h0).2 g
   exact .inl (by omega)
theorem Bw {s t:Bool} {m n:Nat} {i j:Int} (hx:DD.read x=.number s m i) (hy:DD.read y=.number t n j) (hn:n≠0):∃ more:Nat,more=54+n.log2-m.log2 ∧
  DD.div x y=some (DD.nearest (s ^^ t) (2*(m <<< more/n)+(m <<< more%n != 0).toNat) (i-j-more-1)):=by
 refine⟨_,rfl,?_⟩
 unfold Ieee.Format.div;rw[hx,hy]
 simp only[Ieee.Datum.quotient,if_neg hn,CG]
 rfl
theorem fdS [hx:Bd e x] [hy:Ge f y] (h:e≤1000∧f≤1000:=by decide):(FloatKind.f64.format.div x y).isSome=true:=by
 obtain⟨s,m,i,h1,_⟩:=hx.bd h.1
 obtain⟨t,n,j,h2,_,h4,_⟩:=hy.ge h.2
 obtain⟨_,_,h3⟩:=Bw h1 h2 h4
 rw[h3];rfl
theorem zero_div {n more:Nat}:2*(0 <<< more/n)+(0 <<< more%n != 0).toNat=0:=by simp
theorem Nl {m n:Nat} {i j:Int} (hm2:Lw m i e) (hn:n≠0) (hn2:0≤(n.log2:Int)+j) {more:Nat} (ly:more=54+n.log2-m.log2) :
  Lw (2*(m <<< more/n)+(m <<< more%n != 0).toNat) (i-j-more-1) e:=by
 by_cases hm:m=0
 ·subst hm;exact .inl zero_div
 ·exact Iw hm2 hm hn hn2 more (by omega)
theorem Py [hx:Bd e x] [hy:Ge f y] (hf:f≤1000:=by decide):Bd e (fdiv x y):=⟨fun he=>by
 obtain⟨s,m,i,h1,k1⟩:=hx.bd he
 obtain⟨t,n,j,h2,k2,k3,k4⟩:=hy.ge hf
 obtain⟨more,h3,h4⟩:=Bw h1 h2 k3
 obtain⟨m',p',r1,r2,_⟩:=Jy (s ^^ t) (Nl k1 k3 k4 h3) (by omega) (by omega)
 refine⟨(s ^^ t:Bool),m',p',?_,r2⟩
 unfold fdiv;rw[h4];exact r1⟩
instance bdD [hx:Bd e x] [hy:Ge f y]:Bd (max e f) (fdiv x y):=⟨fun he=>by
 obtain⟨s,m,i,h1,k1⟩:=hx.bd (by omega)
 obtain⟨t,n,j,h2,k2,k3,k4⟩:=hy.ge (by omega)
 obtain⟨more,h3,h4⟩:=Bw h1 h2 k3
 obtain⟨m',p',r1,r2,_⟩:=Jy (s ^^ t) (Nl k1 k3 k4 h3) (by omega) (by omega)
 refine⟨(s ^^ t:Bool),m',p',?_,r2.mono (by omega)⟩
 unfold fdiv;rw[h4];exact r1⟩
instance poD [hx:Po e x] [hy:Pg f y]:Po (max e f) (fdiv x y):=⟨fun he=>by
 obtain⟨m,i,h1,k1⟩:=hx.po (by omega)
 obtain⟨n,j,h2,k2,k3,k4⟩:=hy.pg (by omega)
 obtain⟨more,h3,h4⟩:=Bw h1 h2 k3
 obtain⟨m',p',r1,r2,_⟩:=Jy (false ^^ false) (Nl k1 k3 k4 h3) (by omega) (by omega)
 refine⟨m',p',?_,r2.mono (by omega)⟩
 unfold fdiv;rw[h4];exact r1⟩
end
end Go.Eng
end
section
namespace Go.Eng
open Go.RowKit (Below)
def Pz (e x:Nat) (s g:Bool):Bool:=match DD.read x with
 | .number t m p=>(!s||!t)&&(decide (m=0)||(decide ((m.log2:Int)+p<e)||(decide (m=2 ^ m.log2)&&decide ((m.log2:Int)+p=e))))&&(!g||(decide (m≠0)&&decide (0≤(m.log2:Int)+p)))
 | _=>false
theorem Rj {e x:Nat} {s g:Bool} (h:Pz e x s g=true):∃ t m p,DD.read x=.number t m p∧(s=true→t=false)∧Lw m p e∧(g=true→m≠0∧0≤(m.log2:Int)+p):=by
 unfold Pz at h
 split at h
 ·rename_i t m p hr
  simp only[aW,fP,eK,decide_eq_true_eq] at h
  refine⟨t,m,p,hr,fun hs=>h.1.1.resolve_left (by rw[hs];decide),h.1.2,fun hg=>h.2.resolve_left (by rw[hg];decide)⟩
 ·cases h
section
variable {e x:Nat}
theorem Ub (h:Pz e x false false=true):Bd e x:=⟨fun _=>by obtain⟨t,m,p,h1,_,h2,_⟩:=Rj h;exact⟨t,m,p,h1,h2⟩⟩
theorem KQ (h:Pz e x true false=true):Po e x:=⟨fun _=>by obtain⟨t,m,p,h1,h0,h2,_⟩:=Rj h;rw[h0 rfl] at h1;exact⟨m,p,h1,h2⟩⟩
theorem VE (h:Pz e x true true=true):Pg e x:=⟨fun _=>by obtain⟨t,m,p,h1,h0,h2,h3⟩:=Rj h;rw[h0 rfl] at h1;exact⟨m,p,h1,h2,h3 rfl⟩⟩
end
set_option maxRecDepth 4000
instance:Pg 1 4608412980311869571:=VE (by decide)
instance:Pg 0 4607182418800017408:=VE (by decide)
instance:Po 0 4605249456957292544:=KQ (by decide)
instance:Po 0 4495793288086814720:=KQ (by decide)
instance:Po 0 4388835458085048688:=KQ (by decide)
instance:Po 0 4602678819172646912:=KQ (by decide)
instance:Po 0 4460209587652500685:=KQ (by decide)
instance:Bd 0 13716528389658582877:=Ub (by decide)
instance:Po 0 4523617212962785441:=KQ (by decide)
instance:Bd 0 13774824197404483331:=Ub (by decide)
instance:Po 0 4575957461383575504:=KQ (by decide)
instance:Bd 0 13818544856648471880:=Ub (by decide)
instance:Bd 0 13666448263388469915:=Ub (by decide)
instance:Po 0 4477121864728985349:=KQ (by decide)
instance:Bd 0 13732177093698800582:=Ub (by decide)
instance:Po 0 4537941361668146421:=KQ (by decide)
instance:Bd 0 13787419979223748497:=Ub (by decide)
instance:Po 0 4586165620538955083:=KQ (by decide)
instance:Pg 14 4670232813583204352:=VE (by decide)
instance:Pg 2 4614256656552045848:=VE (by decide)
instance:Pg 11 4656722014701092864:=VE (by decide)
instance:Bd 0 13829429103926125972:=Ub (by decide)
instance:Bd 5 13848613196940411002:=Ub (by decide)
instance:Bd 7 13858350711815275123:=Ub (by decide)
instance:Bd 7 13861719834326579749:=Ub (by decide)
instance:Bd 7 13857635882265799822:=Ub (by decide)
instance:Pg 5 4627690253511319612:=VE (by decide)
instance:Pg 8 4640010388282866213:=VE (by decide)
instance:Pg 9 4646322940342877755:=VE (by decide)
instance:Pg 9 4647246694406179306:=VE (by decide)
instance:Pg 8 4641049159275471596:=VE (by decide)
instance:Po 0 4604119971053405471:=KQ (by decide)
instance:Pg 2 4612618744449965542:=VE (by decide)
instance:Pg 1 4609753056924675352:=VE (by decide)
instance:Po 0 4364452196894661639:=KQ (by decide)
instance:Po 0 4605249457297304856:=KQ (by decide)
instance:Po 0 4359948597267291143:=KQ (by decide)
instance:Po 0 0:=KQ (by decide)
section
variable {e f x y:Nat}
theorem P0 (n:Int):dbl n=DD.nearest (n<0) n.natAbs 0:=rfl
theorem Nn {n:Int} (h:n.natAbs<2 ^ e):Lw n.natAbs 0 e:=by
 by_cases h0:n.natAbs=0
 ·exact .inl h0
 ·have:=(dE h0).2 h;exact .inr (.inl (by omega))
theorem Iy {n:Int} (e:Nat) (h:n.natAbs<2 ^ e):Bd e (dbl n):=⟨fun he=>by
 obtain⟨m',p',r1,r2,_⟩:=Jy (n<0) (Nn h) (by omega) (by omega)
 exact⟨_,m',p',r1,r2⟩⟩
theorem Iz {n:Int} (e:Nat) (h:n.natAbs<2 ^ e) (h0:n≠0):Ge e (dbl n):=⟨fun he=>by
 obtain⟨m',p',r1,r2,r3⟩:=Jy (n<0) (Nn h) (by omega) (by omega)
 have:=r3 (by omega) (by omega)
 exact⟨_,m',p',r1,r2,this⟩⟩
theorem P1 {n:Int} (e:Nat) (h:n.natAbs<2 ^ e) (h0:0≤n):Po e (dbl n):=⟨fun he=>by
 obtain⟨m',p',r1,r2,_⟩:=Jy false (Nn h) (by omega) (by omega)
 refine⟨m',p',?_,r2⟩
 rw[P0,decide_eq_false (by omega)];exact r1⟩
theorem Np {m:Nat} {p:Int} (h:Lw m p e):(m <<< p.toNat)/2 ^ (min (-p).toNat ((m <<< p.toNat).log2+2))≤2 ^ e:=by
 by_cases hp:0≤p
 ·rw[show (-p).toNat=0 by omega,Nat.zero_min,Nat.pow_zero,Nat.div_one]
  have:=BQ (b:=0) (K:=e) (by rw[Int.zero_add];exact h) hp
  rwa [Int.sub_zero] at this
 unfold Lw at h
 by_cases h0:m=0
 ·rw[h0,cW,Nat.zero_div];exact aN _
 have h:=h.resolve_left h0
 have a:m<2 ^ (m.log2+1):=cZ
 rw[show p.toNat=0 by omega,cR]
 by_cases hq:(-p).toNat≤m.log2+2
 ·rw[dO hq]
  rcases h with h|⟨h,h3⟩
  ·refine Nat.le_of_lt ?_
   rw[dG (bF _),← bQ]
   exact bV a (bP (by decide) (by omega))
  ·refine Nat.div_le_of_le_mul ?_
   rw[← bQ]
   refine bH (Nat.le_of_eq h) (bP (by decide) (by omega))
 ·rw[Nat.min_eq_right (by omega),Nat.div_eq_of_lt (bV a (bP (by decide) (by omega)))]
  exact aN _
theorem I0 (neg:Bool) (n drop:Nat):Ieee.Toward.zero.cut neg n drop=n/2 ^ (min drop (n.log2+2)):=by
 unfold Ieee.Toward.cut
 simp only[gD,Bool.toNat_false,bI]
theorem P2 [h:Bd e x] (he:e≤1000):∃ (s:Bool) (a:Nat),a≤2 ^ e∧(FloatKind.f64.decode x).toInt .zero=some (if s then -(a:Int) else a)∧f2i x=if s then -(a:Int) else a:=by
 obtain⟨s,m,p,h1,h2⟩:=h.bd he
 have hb:=Np h2
 have hr:FloatKind.f64.decode x=.number s m p:=h1
 have ht:(FloatKind.f64.decode x).toInt .zero=some (if s then -((m <<< p.toNat/2 ^ (min (-p).toNat ((m <<< p.toNat).log2+2)):Nat):Int) else (m <<< p.toNat/2 ^ (min (-p).toNat ((m <<< p.toNat).log2+2)):Nat)):=by
  rw[hr]
  simp only[Ieee.Datum.toInt,Ieee.Datum.integral,I0,Ieee.signed,cR]
 exact⟨s,_,hb,ht,by unfold f2i;rw[ht];rfl⟩
theorem Ed [h:Bd e x] (he:e≤62:=by decide):floatToIntVal .f64 x .i64=some (f2i x):=by
 obtain⟨s,a,h1,h2,h3⟩:=P2 (x:=x) (e:=e) (by omega)
 have h4:2 ^ e≤2 ^ 62:=bP (by decide) he
 have h5:(2:Nat) ^ 62=4611686018427387904:=rfl
 have m1:IntKind.i64.min=-9223372036854775808:=rfl
 have m2:IntKind.i64.max=9223372036854775807:=rfl
 unfold floatToIntVal
 rw[h2,h3]
 simp only
 rw[m1,m2,if_pos (by split <;> omega)]
theorem Ee [h:Po e x] (he:e≤62:=by decide):floatToIntVal .f64 x .u64=some (f2i x):=by
 obtain⟨m,p,h1,h2⟩:=h.po (by omega)
 have hb:=Np h2
 have hr:FloatKind.f64.decode x=.number false m p:=h1
 have h4:2 ^ e≤2 ^ 62:=bP (by decide) he
 have h5:(2:Nat) ^ 62=4611686018427387904:=rfl
 have ht:(FloatKind.f64.decode x).toInt .zero=some ((m <<< p.toNat/2 ^ (min (-p).toNat ((m <<< p.toNat).log2+2)):Nat):Int):=by
  rw[hr]
  simp only[Ieee.Datum.toInt,Ieee.Datum.integral,I0,Ieee.signed,cR,eY,if_false]
 have m1:IntKind.u64.min=0:=rfl
 have m2:IntKind.u64.max=18446744073709551615:=rfl
 obtain⟨a,ha⟩:∃ a,m <<< p.toNat/2 ^ (min (-p).toNat ((m <<< p.toNat).log2+2))=a:=⟨_,rfl⟩
 rw[ha] at hb ht
 unfold floatToIntVal f2i
 rw[ht]
 simp only
 rw[m1,m2,if_pos (by omega)]
 rfl
theorem I1 [h:Po e x] (he:e≤1000:=by decide):0≤f2i x∧(f2i x).natAbs≤2 ^ e:=by
 obtain⟨m,p,h1,h2⟩:=h.po he
 have hb:=Np h2
 have hr:FloatKind.f64.decode x=.number false m p:=h1
 have ht:f2i x=((m <<< p.toNat/2 ^ (min (-p).toNat ((m <<< p.toNat).log2+2)):Nat):Int):=by
  unfold f2i;rw[hr]
  simp only[Ieee.Datum.toInt,Ieee.Datum.integral,I0,Ieee.signed,cR,eY,if_false,cX]
 rw[ht]
 exact⟨aO _,by rw[eH];exact hb⟩
theorem Rk [h:Bd e x] (he:e≤1000):∃ (s:Bool) (a:Nat),a≤2 ^ e+1∧FloatKind.f64.encode ((FloatKind.f64.decode x).integral .down)=DD.nearest s a 0:=by
 obtain⟨s,m,p,h1,h2⟩:=h.bd he
 have hb:=Np h2
 have hr:FloatKind.f64.decode x=.number s m p:=h1
 refine⟨s,Ieee.Toward.down.cut s (m <<< p.toNat) (-p).toNat,?_,by rw[hr];rfl⟩
 have:=(Ri .down s (m <<< p.toNat) (-p).toNat).2
 omega
instance bdF [h:Bd e x]:Bd (e+1) (UZ x):=⟨fun he=>by
 obtain⟨s,a,h1,h2⟩:=Rk (x:=x) (e:=e) (by omega)
 have h3:Lw a 0 ((e+1:Nat):Int):=by
  by_cases h0:a=0
  ·exact .inl h0
  have hp:=bF e
  by_cases h5:a=2 ^ (e+1)
  ·have a4:a.log2=e+1:=by rw[h5];exact Uz (aR _) (dY (by decide) (by omega))
   exact .inr (.inr ⟨by rw[a4];exact h5,by omega⟩)
  ·have:=(dE h0).2 (show a<2 ^ (e+1) by rw[eP] at h5 ⊢;omega)
   exact .inr (.inl (by omega))
 obtain⟨m',p',r1,r2,_⟩:=Jy s h3 (by omega) (by omega)
 refine⟨s,m',p',?_,r2⟩
 unfold UZ;rw[h2];exact r1⟩
theorem Zag [h:Bd e x] (he:e≤1000:=by decide):∃ s m p,FloatKind.f64.decode x=.number s m p:=by
 obtain⟨s,m,p,h1,_⟩:=h.bd he
 exact⟨s,m,p,h1⟩
theorem Rl {f:FuncId} {P:Program} {w:World} {fn:Func} {b:Nat} (hf:P.funcs[f]?=some fn) (pe:(fn.name == "runtime.NumGoroutine")=false) (hb:fn.body.isNone=true) (hn:Extern.findNext fn=none)
  (he:Extern.find fn=some (Extern.MathFloor.toIntegral "math.archFloor" .down)) (hx:∃ s m p,FloatKind.f64.decode b=.number s m p):(callFunc f #[.float .f64 b]).run P w=.ok (.value (.float .f64 (UZ b))) w:=by
 rw[run_callFunc_extern hf pe hb hn he]
 obtain⟨s,m,p,h⟩:=hx
 have e:Extern.MathFloor.toIntegral "math.archFloor" .down #[.float .f64 b]=pure (.float .f64 (UZ b)):=by
  unfold UZ
  conv=>lhs;whnf
  rw[h]
 rw[e]
 rfl
def mkD (s:Bool) (r:Nat):Ieee.Datum :=
 if r<DD.binade then .number s r DD.leastPlace else if r<DD.infRung then .number s (DD.binade+r%DD.binade) (DD.leastPlace+(r/DD.binade-1:Nat)) else if r=DD.infRung then .infinity s else .nan s (r-DD.infRung)
theorem Nq (x:Nat):DD.read x=mkD (x/DD.signWeight%2==1) (x%DD.signWeight):=rfl
theorem Ef (s:Bool) (r:Nat):mkD (!s) r=(mkD s r).opposite:=by
 unfold mkD
 by_cases c1:r<DD.binade
 ·rw[if_pos c1,if_pos c1];rfl
 rw[if_neg c1,if_neg c1]
 by_cases c2:r<DD.infRung
 ·rw[if_pos c2,if_pos c2];rfl
 rw[if_neg c2,if_neg c2]
 by_cases c3:r=DD.infRung
 ·rw[if_pos c3,if_pos c3];rfl
 ·rw[if_neg c3,if_neg c3];rfl
theorem Eg {s:Bool} {r m:Nat} {p:Int} (h:mkD s r=.number s m p) (t:Bool):mkD t r=.number t m p:=by
 unfold mkD at h ⊢
 by_cases c1:r<DD.binade
 ·rw[if_pos c1] at h ⊢;cases h;rfl
 rw[if_neg c1] at h ⊢
 by_cases c2:r<DD.infRung
 ·rw[if_pos c2] at h ⊢;cases h;rfl
 rw[if_neg c2] at h
 by_cases c3:r=DD.infRung
 ·rw[if_pos c3] at h;cases h
 ·rw[if_neg c3] at h;cases h
theorem P3 {s t:Bool} {r m:Nat} {p:Int} (h:mkD s r=.number t m p):t=s:=by
 unfold mkD at h
 by_cases c1:r<DD.binade
 ·rw[if_pos c1] at h;cases h;rfl
 rw[if_neg c1] at h
 by_cases c2:r<DD.infRung
 ·rw[if_pos c2] at h;cases h;rfl
 rw[if_neg c2] at h
 by_cases c3:r=DD.infRung
 ·rw[if_pos c3] at h;cases h
 ·rw[if_neg c3] at h;cases h
theorem F3 (x:Nat):DD.read (We x)=(DD.read x).opposite:=by
 have h1:(x ^^^ 9223372036854775808)%9223372036854775808=x%9223372036854775808:=by
  have:=Nat.xor_mod_two_pow (a:=x) (b:=9223372036854775808) (n:=63)
  rw[show (2:Nat) ^ 63=9223372036854775808 from rfl,Nat.mod_self,Nat.xor_zero] at this
  exact this
 have h2:(x ^^^ 9223372036854775808)/9223372036854775808=(x/9223372036854775808) ^^^ 1:=by
  have:=Nat.xor_div_two_pow (a:=x) (b:=9223372036854775808) (n:=63)
  rw[show (2:Nat) ^ 63=9223372036854775808 from rfl] at this
  rw[this]
 have h3:(((x/9223372036854775808) ^^^ 1)%2==1)=!(x/9223372036854775808%2==1):=by
  have:=Nat.xor_mod_two_pow (a:=x/9223372036854775808) (b:=1) (n:=1)
  rw[Nat.pow_one] at this
  rw[this]
  rcases Nat.mod_two_eq_zero_or_one (x/9223372036854775808) with h|h <;> rw[h] <;> rfl
 rw[Nq,Nq,We,Bt,h1,h2,h3,Ef]
instance bdN [h:Bd e x]:Bd e (We x):=⟨fun he=>by
 obtain⟨s,m,p,h1,h2⟩:=h.bd he
 exact⟨!s,m,p,by rw[F3,h1];rfl,h2⟩⟩
theorem Vs {s t:Bool} {m n:Nat} {i j:Int} (hx:DD.read x=.number s m i) (hy:DD.read y=.number t n j):fcm x y=some (compare (Ieee.signed s m (i-min i j).toNat) (Ieee.signed t n (j-min i j).toNat)):=by
 unfold fcm Ieee.Format.order
 rw[show FloatKind.f64.format.read x=.number s m i from hx,show FloatKind.f64.format.read y=.number t n j from hy];rfl
theorem TA (a:Int):compare a a=Ordering.eq:=by
 show compareOfLessAndEq a a=_
 unfold compareOfLessAndEq
 rw[if_neg (by omega),if_pos rfl]
theorem CJ {a b:Int}:compare a b=Ordering.lt↔a<b:=by
 show compareOfLessAndEq a b=_↔_
 unfold compareOfLessAndEq
 by_cases h:a<b
 ·simp[h]
 ·by_cases h2:a=b <;> simp[h,h2]
theorem Bz {a b:Int}:compare a b=Ordering.gt↔b<a:=by
 show compareOfLessAndEq a b=_↔_
 unfold compareOfLessAndEq
 by_cases h:a<b
 ·simp[h];omega
 ·by_cases h2:a=b <;> simp[h,h2];omega
theorem BS [h:Bd e x] (he:e≤1000:=by decide):fne x x=false:=by
 obtain⟨s,m,p,h1,_⟩:=h.bd he
 unfold fne;rw[Vs h1 h1,TA];rfl
theorem TB {s:Bool} {m a:Nat}:Ieee.signed s m a≤((m <<< a:Nat):Int):=by
 unfold Ieee.signed;cases s
 ·exact dL _
 ·have:=aO (m <<< a)
  show -((m <<< a:Nat):Int)≤_
  generalize ((m <<< a:Nat):Int)=z at this ⊢
  omega
theorem P4 [h:Bd e x] {n:Nat} {j:Int} (hy:DD.read y=.number false n j) (hn:n≠0) (hj:(e:Int)<n.log2+j) (he:e≤1000):fge x y=false:=by
 obtain⟨s,m,i,h1,h2⟩:=h.bd he
 have hlt:Ieee.signed s m (i-min i j).toNat<Ieee.signed false n (j-min i j).toNat:=by
  refine Int.lt_of_le_of_lt TB ?_
  rw[Jm]
  refine cC.2 ?_
  have q1:2 ^ (n.log2+(j-min i j).toNat)≤n <<< (j-min i j).toNat:=by
   rw[cB,bQ];exact bO _ (dS hn)
  refine bV ?_ q1
  by_cases hz:0≤(e:Int)-min i j
  ·have c:=BQ (m:=m) (i:=i) (b:=min i j) (K:=((e:Int)-min i j).toNat) (h2.mono (by omega)) (by omega)
   exact eZ c (dY (by decide) (by omega))
  ·have m0:m=0:=by unfold Lw at h2;omega
   rw[m0,cW];exact bF _
 unfold fge;rw[Vs h1 hy,CJ.2 hlt];rfl
theorem Eh [h:Bd e x] (he:e<29:=by decide):fge x 4737786807993761792=false:=by
 refine P4 (n:=4503599627370496) (j:=-23) rfl (by decide) ?_ (by omega)
 rw[show Nat.log2 4503599627370496=52 from Uz (by decide) (by decide)];omega
theorem Nr [h:Bd e x] (he:e≤1000:=by decide):fgt x 9218868437227405311=false:=by
 have g:fge x 9218868437227405311=false:=by
  refine P4 (n:=9007199254740991) (j:=971) rfl (by decide) ?_ he
  rw[show Nat.log2 9007199254740991=52 from Uz (by decide) (by decide)];omega
 unfold fge at g;unfold fgt
 exact(bR.1 g).1
theorem Rm:DD.read 0=.number false 0 (-1074):=rfl
theorem BU (a:Nat):Ieee.signed false 0 a=0:=by unfold Ieee.signed;rw[cW];rfl
theorem I2 [h:Po e x] (he:e≤1000:=by decide):flt x 0=false:=by
 obtain⟨m,p,h1,_⟩:=h.po he
 unfold flt;rw[Vs h1 Rm,BU,Jm]
 have:¬ compare ((m <<< (p-min p (-1074)).toNat:Nat):Int) 0=Ordering.lt:=by
  rw[CJ];exact Int.not_lt.2 (aO _)
 generalize compare ((m <<< (p-min p (-1074)).toNat:Nat):Int) 0=c at this
 cases c
 ·exact absurd rfl this
 ·rfl
 ·rfl
theorem P5 [h:Bd e x] (hg:fgt x 0=true):Po e x:=⟨fun he=>by
 obtain⟨s,m,p,h1,h2⟩:=h.bd he
 unfold fgt at hg;rw[Vs h1 Rm,BU] at hg
 have:compare (Ieee.signed s m (p-min p (-1074)).toNat) 0=Ordering.gt:=by
  generalize compare (Ieee.signed s m (p-min p (-1074)).toNat) 0=c at hg
  cases c
  ·cases hg
  ·cases hg
  ·rfl
 rw[Bz] at this
 cases s
 ·exact⟨m,p,h1,h2⟩
 ·exfalso
  have e1:Ieee.signed true m (p-min p (-1074)).toNat=-((m <<< (p-min p (-1074)).toNat:Nat):Int):=rfl
  rw[e1] at this
  have:=aO (m <<< (p-min p (-1074)).toNat)
  generalize ((m <<< (p-min p (-1074)).toNat:Nat):Int)=z at *
  omega⟩
theorem TD [h:Bd e x] (hz:feq x 0=false) (hg:fgt x 0=false):Po e (We x):=⟨fun he=>by
 obtain⟨s,m,p,h1,h2⟩:=h.bd he
 cases s
 ·exfalso
  unfold feq at hz;unfold fgt at hg
  rw[Vs h1 Rm,BU,Jm] at hz hg
  have n1:=aO (m <<< (p-min p (-1074)).toNat)
  generalize ((m <<< (p-min p (-1074)).toNat:Nat):Int)=z at *
  rcases Int.lt_trichotomy 0 z with c|c|c
  ·rw[Bz.2 c] at hg;cases hg
  ·subst c;cases hz
  ·omega
 ·exact⟨m,p,by rw[F3,h1];rfl,h2⟩⟩
theorem MW [h:Bd e x] [hy:Pg f y] (hf:f≤1000) (hg:fgt x y=true):Pg e x:=⟨fun he=>by
 obtain⟨s,m,i,h1,h2⟩:=h.bd he
 obtain⟨n,j,k1,k2,k3,k4⟩:=hy.pg hf
 unfold fgt at hg;rw[Vs h1 k1,Jm] at hg
 have:compare (Ieee.signed s m (i-min i j).toNat) ((n <<< (j-min i j).toNat:Nat):Int)=Ordering.gt:=by
  generalize compare (Ieee.signed s m (i-min i j).toNat) ((n <<< (j-min i j).toNat:Nat):Int)=c at hg
  cases c
  ·cases hg
  ·cases hg
  ·rfl
 rw[Bz] at this
 have q1:2 ^ (n.log2+(j-min i j).toNat)≤n <<< (j-min i j).toNat:=by
  rw[cB,bQ];exact bO _ (dS k3)
 cases s
 ·rw[Jm] at this
  have t2:=cC.1 this
  have m0:m≠0:=by
   intro hm;rw[hm,cW] at t2;exact cF _ t2
  have a:m<2 ^ (m.log2+1):=cZ
  have c:=cD a (bF (i-min i j).toNat)
  rw[← bQ,← cB] at c
  have d:2 ^ (n.log2+(j-min i j).toNat)<2 ^ (m.log2+1+(i-min i j).toNat):=eZ q1 (Nat.lt_trans t2 c)
  have d2:=(Nat.pow_lt_pow_iff_right (by decide:1<2)).1 d
  exact⟨m,i,h1,h2,m0,by omega⟩
 ·exfalso
  have e1:Ieee.signed true m (i-min i j).toNat=-((m <<< (i-min i j).toNat:Nat):Int):=rfl
  rw[e1] at this
  have n1:=aO (m <<< (i-min i j).toNat)
  have n2:=aO (n <<< (j-min i j).toNat)
  generalize ((m <<< (i-min i j).toNat:Nat):Int)=z at *
  generalize ((n <<< (j-min i j).toNat:Nat):Int)=z2 at *
  omega⟩
theorem TF {m:Nat} {i b:Int} {K:Nat} (h:m <<< (i-b).toNat≤2 ^ K) (hi:b≤i):Lw m i (b+K):=by
 by_cases h0:m=0
 ·exact .inl h0
 rw[cB] at h
 have a1:=bO (2 ^ (i-b).toNat) (dS h0)
 rw[← bQ] at a1
 have a2:=(Nat.pow_le_pow_iff_right (by decide:1<2)).1 (bH a1 h)
 by_cases h3:m.log2+(i-b).toNat=K
 ·refine .inr (.inr ⟨?_,by omega⟩)
  rw[← h3,bQ] at h
  exact Nat.le_antisymm (Nat.le_of_mul_le_mul_right h (bF _)) (dS h0)
 ·exact .inr (.inl (by omega))
theorem F4 [h:Po e x] [hy:Po f y] (hg:fgt x y=false) (he:e≤1000:=by decide):Po f x:=⟨fun hf=>by
 obtain⟨m,i,h1,h2⟩:=h.po he
 obtain⟨n,j,k1,k2⟩:=hy.po hf
 unfold fgt at hg;rw[Vs h1 k1,Jm,Jm] at hg
 have hc:¬ compare ((m <<< (i-min i j).toNat:Nat):Int) ((n <<< (j-min i j).toNat:Nat):Int)=Ordering.gt:=by
  intro hc;rw[hc] at hg;cases hg
 rw[Bz] at hc
 have hle:m <<< (i-min i j).toNat≤n <<< (j-min i j).toNat:=Int.ofNat_le.1 (Int.not_lt.1 hc)
 refine⟨m,i,h1,?_⟩
 by_cases hz:0≤(f:Int)-min i j
 ·have c:=BQ (m:=n) (i:=j) (b:=min i j) (K:=((f:Int)-min i j).toNat) (k2.mono (by omega)) (by omega)
  exact(TF (bH hle c) (by omega)).mono (by omega)
 ·have n0:n=0:=by unfold Lw at k2;omega
  rw[n0,cW,cB] at hle
  have p1:=bF (i-min i j).toNat
  rcases bM m with hm|hm
  ·exact .inl hm
  ·have:=Nat.mul_pos hm p1;omega⟩
theorem Ei (h:fle x y=true):fgt x y=false:=by
 unfold fle at h;unfold fgt
 generalize fcm x y=c at h
 rcases c with _|_|_|_ <;> first|rfl|cases h
theorem MX (h:Bd e x) (hf:e≤f:=by decide):Bd f x:=⟨fun he=>by obtain⟨s,m,p,h1,h2⟩:=h.bd (by omega);exact⟨s,m,p,h1,h2.mono (by omega)⟩⟩
theorem P6 (h:Po e x) (hf:e≤f:=by decide):Po f x:=⟨fun he=>by obtain⟨m,p,h1,h2⟩:=h.po (by omega);exact⟨m,p,h1,h2.mono (by omega)⟩⟩
theorem Yt [h:Bd e x] (hr:x=y):Bd e y:=hr ▸ h
theorem Yu [h:Po e x] (hr:x=y):Po e y:=hr ▸ h
theorem Q1 [h:Bd e x] (hf:e≤f:=by decide):Bd f x:=MX h hf
theorem Ns [h:Po e x] (hf:e≤f:=by decide):Po f x:=P6 h hf
def IsI (y:Nat):Prop:=∃ n:Int,n.natAbs<2 ^ 21∧y=dbl n
theorem QN (h:IsI y):Bd 21 y:=by obtain⟨n,h1,rfl⟩:=h;exact Iy 21 h1
theorem Gf (h:IsI y):y<18446744073709551616:=by obtain⟨n,h1,rfl⟩:=h;exact Go.Sky.dbl_lt n
theorem I3 {n:Int} (h:feq (dbl n) 0=false):n≠0:=by
 intro h0;subst h0;cases h
theorem P7 (h:IsI y) (h0:feq y 0=false):Ge 21 y:=by obtain⟨n,h1,rfl⟩:=h;exact Iz 21 h1 (I3 h0)
theorem P8 (hxy:x%9223372036854775808=y%9223372036854775808) [h:Bd e y]:Bd e x:=⟨fun he=>by
 obtain⟨s,m,p,h1,h2⟩:=h.bd he
 rw[Nq] at h1 ⊢
 rw[show x%DD.signWeight=y%DD.signWeight from hxy]
 have hs:=P3 h1
 subst hs
 exact⟨_,m,p,Eg h1 _,h2⟩⟩
end
def Rn (w:World) (g:Nat) (zs:List Nat):Prop:=g<w.heap.size∧∀ i z,zs[i]?=some z→w.cell? ⟨g,i,none⟩=some (.float .f64 z)
theorem Nu {b:Nat}:¬ XS [] b:=by rintro⟨_,h,_⟩;cases h
theorem Rn.sat {w0 w:World} {D:Nat→Prop} {M:Mem} {g:Nat} {zs:List Nat} (h:Rn w0 g zs) (hM:Sat ⟨w0,D⟩ M w) (hD:¬ D g:=by first|exact(fun h=>h)|exact Nu):Rn w g zs:=by
 refine⟨bV h.1 hM.chg.size,fun i z hz=>?_⟩
 have:=h.2 i z hz
 unfold World.cell? at this ⊢
 rw[show w.heap[(⟨g,i,none⟩:Addr).block]?=w0.heap[(⟨g,i,none⟩:Addr).block]? from hM.chg.block g h.1 hD]
 exact this
theorem Qi {P:Program} {w:World} {T g i z:Nat} {zs:List Nat} (h:Rn w g zs) (hz:zs[i]?=some z) (hT:SG P T=true) :
  (sV (Instr.loadAt T (.pointer (some ⟨g,i,none⟩)))).run P w=.ok (.value (.float .f64 z)) w:=by
 have hR:Rd w 1 (some ⟨g,i,none⟩) [#[.float .f64 z]]:=⟨show 1<4611686018427387904 by decide,fun k r hk=>by
  cases k with
  | succ k=>cases hk
  | zero =>
   cases hk
   refine⟨rfl,_,rfl,h.1,fun j v hj=>?_⟩
   cases j with
   | succ j=>simp at hj
   | zero =>
    simp at hj;subst hj
    exact h.2 i z hz⟩
 exact Z3 (off:=0) (i:=0) (.float .f64 z) hR rfl hT rfl
end Go.Eng
end
section
namespace Go.Sky
open Go Go.Eng Go.Proofs
abbrev pQ0 (a:Nat):Nat:=Zn (YL 4609753056924675352 a) 4364452196894661639
abbrev pQ1 (a:Nat):Nat:=Zn (Zn 4605249457297304856 a) 4359948597267291143
abbrev pQ5 (a:Nat):Nat:=Zn (Zf 13829429103926125972 a) 13848613196940411002
abbrev pQ7 (a:Nat):Nat:=Zn (Zf (Zn a 4627690253511319612) a) 4640010388282866213
abbrev pQ10 (a:Nat):Nat:=Zf (pQ5 a) a
abbrev pQ11 (a:Nat):Nat:=fdiv (YL a 4607182418800017408) (Zn a 4607182418800017408)
abbrev pQ12 (a:Nat):Nat:=Zf (pQ7 a) a
abbrev pQ15 (a:Nat):Nat:=Zn (pQ10 a) 13858350711815275123
abbrev pQ16 (a:Nat):Nat:=Zn (pQ12 a) 4646322940342877755
abbrev pQ19 (a:Nat):Nat:=Zf (pQ15 a) a
abbrev pQ20 (a:Nat):Nat:=Zf (pQ16 a) a
abbrev pQ23 (a:Nat):Nat:=Zn (pQ19 a) 13861719834326579749
abbrev pQ24 (a:Nat):Nat:=Zn (pQ20 a) 4647246694406179306
abbrev pQ27 (a:Nat):Nat:=Zf (pQ23 a) a
abbrev pQ28 (a:Nat):Nat:=Zf (pQ24 a) a
abbrev pQ31 (a:Nat):Nat:=Zn (pQ27 a) 13857635882265799822
abbrev pQ32 (a:Nat):Nat:=Zn (pQ28 a) 4641049159275471596
abbrev pQ35 (a:Nat):Nat:=Zf a (pQ31 a)
abbrev pQ40 (a:Nat):Nat:=fdiv (pQ35 a) (pQ32 a)
theorem Ej {f r:Nat} [h:Bd 21 f] (hl:f<18446744073709551616) (hr:JF f=r):fgt r 9218868437227405311=false:=by
 subst hr
 have e:JF f=f%9223372036854775808:=by
  unfold JF
  rw[Uy hl];rfl
 rw[e]
 have:=P8 (x:=f%9223372036854775808) (y:=f) (e:=21) (Nat.mod_mod _ _)
 exact Nr (e:=21)
theorem BV (f:Nat) (sign:Int) (w:World) (hM:Sat ⟨w,XS []⟩ [] w) (hs:sign=0) (hb:Bd 21 f) (hl:f<18446744073709551616):Calls Tryz.prog 133 #[.fl f,.int .i64 sign] w (JD (Γ:=Bool) ⟨w,XS []⟩ (fun g=>.bool g) (fun g=>[.inr (XG (g=false))])):=by
 refine YW (w0:=⟨w,XS []⟩) (vs:=[.fl f,.i sign]) hM Tryz.func133 rfl Tryz.ntmps133 rfl (J2 [(0,.fl f),(1,.i sign)] Kr (Ze (TL.run 1 [] [(0,.fl f),(1,.i sign)] rfl {} (Zz (Ze (TL.run 2 [] [(0,.fl f),(1,.i sign),(6,.b (sign==0))] rfl {} (Zb rfl (TC.cond (sign==0) rfl Kr (fun h1=>?_) (fun h1=>?_)))))))))
 ·refine TC.region (TL.run 1 [] [(7,.fl f)] rfl {} (TL.call (some 8) [(8,.fl (JF f))] (fun w _=>W3 f w) Kr Kr ?_))
  generalize hr1:JF f=r1
  exact TL.run 3 [] [(0,.fl r1)] rfl {} (Zv (TL.run 3 [] [(4,.b (fgt r1 9218868437227405311))] rfl {} (Zb rfl (TC.ret (ZN (.inl rfl) (fgt r1 9218868437227405311) [] (.b (fgt r1 9218868437227405311)) {} rfl (fun _ hM=>(hM.sub (sb 0)).fact (by have q0_:=(Xf h1);subst hr1;(try dsimp only);first|exact Ej hl rfl)))))))
 ·exact((by subst hs;cases h1):False).elim
def VL (x:Nat):Bool :=
 decide ((w64 (x:Int))<0)
theorem BW (x:Nat) (w:World):Calls Tryz.prog 136 #[.fl x] w (Ret w (.bool (VL x))):=by
 exact Zo (vs:=[.fl x]) (w:=w) Tryz.func136 rfl Tryz.ntmps136 rfl (Ze (Zc 1 [] [(2,.b false)] {} (Zv (Zc 1 [] [(3,.fl x)] {} (TL.v (callFunc 63 #[.fl x]) 4 (.int .u64 (x:Int)) (fun w hM=>Kx Tryz.func63 Kr Kr Kr Kr) {} (Zc 5 [] [(2,.b (decide ((w64 (x:Int))<0)))] {} (Zb rfl (TC.ret (TE.ret [] (.b (decide ((w64 (x:Int))<0))) {} (by unfold VL;refine eS (fun z=>(.b z:Value)) ?_;exact rfl))))))))))
theorem Gg (x:Nat) (w:World) (hM:Sat ⟨w,XS []⟩ [] w) (hx:Bd 3 x):Calls Tryz.prog 164 #[.fl x] w (JD (Γ:=Nat) ⟨w,XS []⟩ (fun g=>.fl g) (fun g=>[.inr (XG (Bd 40 g))])):=by
 refine YW (w0:=⟨w,XS []⟩) (vs:=[.fl x]) hM Tryz.func164 rfl Tryz.ntmps164 rfl (J2 [(0,.fl x)] Kr (Ze (TL.run 1 [] [(0,.fl x)] rfl {} (Zv (TL.run 2 [] [(0,.fl x),(4,.fl x),(5,.fl x)] rfl {} (ZW (sV (binOp .mul 130 (.fl x) (.fl x))) (some 6) (.fl (Zf x x)) [(0,.fl x),(6,.fl (Zf x x))] (fun w hM=>Y6 (by (try have bz_:=Yu ‹Zf x x=_›);(try have bq_:=Yt ‹fdiv _ _=_›);exact fmS)) Kr Kr (TL.run 4 [] [(0,.fl x),(3,.fl (Zf x x))] rfl {} ?_)))))))
 generalize hr1:Zf x x=r1
 refine Zv (TL.run 2 [] [(0,.fl x),(3,.fl r1),(7,.fl r1),(8,.fl r1)] rfl {} (ZW (sV (binOp .mul 130 (.fl 13829429103926125972) (.fl r1))) (some 9) (.fl (Zf 13829429103926125972 r1)) [(0,.fl x),(3,.fl r1),(7,.fl r1),(9,.fl (Zf 13829429103926125972 r1))] (fun w hM=>Y6 (by (try have bz_:=Yu ‹Zf x x=_›);(try have bq_:=Yt ‹fdiv _ _=_›);exact fmS)) Kr Kr (ZW (sV (binOp .add 130 (.fl (Zf 13829429103926125972 r1)) (.fl 13848613196940411002))) (some 10) (.fl (pQ5 r1)) [(0,.fl x),(3,.fl r1),(7,.fl r1),(10,.fl (pQ5 r1))] (fun w hM=>Xn (by (try have bz_:=Yu ‹Zf x x=_›);(try have bq_:=Yt ‹fdiv _ _=_›);exact faS)) Kr Kr (TL.run 5 [] [(0,.fl x),(3,.fl r1),(7,.fl r1),(10,.fl (pQ5 r1)),(11,.fl r1)] rfl {} (ZW (sV (binOp .mul 130 (.fl (pQ5 r1)) (.fl r1))) (some 12) (.fl (pQ10 r1)) [(0,.fl x),(3,.fl r1),(7,.fl r1),(12,.fl (pQ10 r1))] (fun w hM=>Y6 (by (try have bz_:=Yu ‹Zf x x=_›);(try have bq_:=Yt ‹fdiv _ _=_›);exact fmS)) Kr Kr (ZW (sV (binOp .add 130 (.fl (pQ10 r1)) (.fl 13858350711815275123))) (some 13) (.fl (pQ15 r1)) [(0,.fl x),(3,.fl r1),(7,.fl r1),(13,.fl (pQ15 r1))] (fun w hM=>Xn (by (try have bz_:=Yu ‹Zf x x=_›);(try have bq_:=Yt ‹fdiv _ _=_›);exact faS)) Kr Kr (TL.run 8 [] [(0,.fl x),(3,.fl r1),(7,.fl r1),(13,.fl (pQ15 r1)),(14,.fl r1)] rfl {} (ZW (sV (binOp .mul 130 (.fl (pQ15 r1)) (.fl r1))) (some 15) (.fl (pQ19 r1)) [(0,.fl x),(3,.fl r1),(7,.fl r1),(15,.fl (pQ19 r1))] (fun w hM=>Y6 (by (try have bz_:=Yu ‹Zf x x=_›);(try have bq_:=Yt ‹fdiv _ _=_›);exact fmS)) Kr Kr (ZW (sV (binOp .add 130 (.fl (pQ19 r1)) (.fl 13861719834326579749))) (some 16) (.fl (pQ23 r1)) [(0,.fl x),(3,.fl r1),(7,.fl r1),(16,.fl (pQ23 r1))] (fun w hM=>Xn (by (try have bz_:=Yu ‹Zf x x=_›);(try have bq_:=Yt ‹fdiv _ _=_›);exact faS)) Kr Kr (TL.run 11 [] [(0,.fl x),(3,.fl r1),(7,.fl r1),(16,.fl (pQ23 r1)),(17,.fl r1)] rfl {} (ZW (sV (binOp .mul 130 (.fl (pQ23 r1)) (.fl r1))) (some 18) (.fl (pQ27 r1)) [(0,.fl x),(3,.fl r1),(7,.fl r1),(18,.fl (pQ27 r1))] (fun w hM=>Y6 (by (try have bz_:=Yu ‹Zf x x=_›);(try have bq_:=Yt ‹fdiv _ _=_›);exact fmS)) Kr Kr (ZW (sV (binOp .add 130 (.fl (pQ27 r1)) (.fl 13857635882265799822))) (some 19) (.fl (pQ31 r1)) [(0,.fl x),(3,.fl r1),(7,.fl r1),(19,.fl (pQ31 r1))] (fun w hM=>Xn (by (try have bz_:=Yu ‹Zf x x=_›);(try have bq_:=Yt ‹fdiv _ _=_›);exact faS)) Kr Kr (ZW (sV (binOp .mul 130 (.fl r1) (.fl (pQ31 r1)))) (some 20) (.fl (pQ35 r1)) [(0,.fl x),(3,.fl r1),(20,.fl (pQ35 r1))] (fun w hM=>Y6 (by (try have bz_:=Yu ‹Zf x x=_›);(try have bq_:=Yt ‹fdiv _ _=_›);exact fmS)) Kr Kr (TL.run 15 [] [(0,.fl x),(3,.fl r1),(20,.fl (pQ35 r1)),(21,.fl r1)] rfl {} (ZW (sV (binOp .add 130 (.fl r1) (.fl 4627690253511319612))) (some 22) (.fl (Zn r1 4627690253511319612)) [(0,.fl x),(3,.fl r1),(20,.fl (pQ35 r1)),(22,.fl (Zn r1 4627690253511319612))] (fun w hM=>Xn (by (try have bz_:=Yu ‹Zf x x=_›);(try have bq_:=Yt ‹fdiv _ _=_›);exact faS)) Kr Kr (TL.run 17 [] [(0,.fl x),(3,.fl r1),(20,.fl (pQ35 r1)),(22,.fl (Zn r1 4627690253511319612)),(23,.fl r1)] rfl {} (ZW (sV (binOp .mul 130 (.fl (Zn r1 4627690253511319612)) (.fl r1))) (some 24) (.fl (Zf (Zn r1 4627690253511319612) r1)) [(0,.fl x),(3,.fl r1),(20,.fl (pQ35 r1)),(24,.fl (Zf (Zn r1 4627690253511319612) r1))] (fun w hM=>Y6 (by (try have bz_:=Yu ‹Zf x x=_›);(try have bq_:=Yt ‹fdiv _ _=_›);exact fmS)) Kr Kr (ZW (sV (binOp .add 130 (.fl (Zf (Zn r1 4627690253511319612) r1)) (.fl 4640010388282866213))) (some 25) (.fl (pQ7 r1)) [(0,.fl x),(3,.fl r1),(20,.fl (pQ35 r1)),(25,.fl (pQ7 r1))] (fun w hM=>Xn (by (try have bz_:=Yu ‹Zf x x=_›);(try have bq_:=Yt ‹fdiv _ _=_›);exact faS)) Kr Kr (TL.run 20 [] [(0,.fl x),(3,.fl r1),(20,.fl (pQ35 r1)),(25,.fl (pQ7 r1)),(26,.fl r1)] rfl {} (ZW (sV (binOp .mul 130 (.fl (pQ7 r1)) (.fl r1))) (some 27) (.fl (pQ12 r1)) [(0,.fl x),(3,.fl r1),(20,.fl (pQ35 r1)),(27,.fl (pQ12 r1))] (fun w hM=>Y6 (by (try have bz_:=Yu ‹Zf x x=_›);(try have bq_:=Yt ‹fdiv _ _=_›);exact fmS)) Kr Kr (ZW (sV (binOp .add 130 (.fl (pQ12 r1)) (.fl 4646322940342877755))) (some 28) (.fl (pQ16 r1)) [(0,.fl x),(3,.fl r1),(20,.fl (pQ35 r1)),(28,.fl (pQ16 r1))] (fun w hM=>Xn (by (try have bz_:=Yu ‹Zf x x=_›);(try have bq_:=Yt ‹fdiv _ _=_›);exact faS)) Kr Kr (TL.run 23 [] [(0,.fl x),(3,.fl r1),(20,.fl (pQ35 r1)),(28,.fl (pQ16 r1)),(29,.fl r1)] rfl {} (ZW (sV (binOp .mul 130 (.fl (pQ16 r1)) (.fl r1))) (some 30) (.fl (pQ20 r1)) [(0,.fl x),(3,.fl r1),(20,.fl (pQ35 r1)),(30,.fl (pQ20 r1))] (fun w hM=>Y6 (by (try have bz_:=Yu ‹Zf x x=_›);(try have bq_:=Yt ‹fdiv _ _=_›);exact fmS)) Kr Kr (ZW (sV (binOp .add 130 (.fl (pQ20 r1)) (.fl 4647246694406179306))) (some 31) (.fl (pQ24 r1)) [(0,.fl x),(3,.fl r1),(20,.fl (pQ35 r1)),(31,.fl (pQ24 r1))] (fun w hM=>Xn (by (try have bz_:=Yu ‹Zf x x=_›);(try have bq_:=Yt ‹fdiv _ _=_›);exact faS)) Kr Kr (TL.run 26 [] [(0,.fl x),(20,.fl (pQ35 r1)),(31,.fl (pQ24 r1)),(32,.fl r1)] rfl {} (ZW (sV (binOp .mul 130 (.fl (pQ24 r1)) (.fl r1))) (some 33) (.fl (pQ28 r1)) [(0,.fl x),(20,.fl (pQ35 r1)),(33,.fl (pQ28 r1))] (fun w hM=>Y6 (by (try have bz_:=Yu ‹Zf x x=_›);(try have bq_:=Yt ‹fdiv _ _=_›);exact fmS)) Kr Kr (ZW (sV (binOp .add 130 (.fl (pQ28 r1)) (.fl 4641049159275471596))) (some 34) (.fl (pQ32 r1)) [(0,.fl x),(20,.fl (pQ35 r1)),(34,.fl (pQ32 r1))] (fun w hM=>Xn (by (try have bz_:=Yu ‹Zf x x=_›);(try have bq_:=Yt ‹fdiv _ _=_›);exact faS)) Kr Kr (ZW (sV (binOp .quo 130 (.fl (pQ35 r1)) (.fl (pQ32 r1)))) (some 35) (.fl (pQ40 r1)) [(0,.fl x),(35,.fl (pQ40 r1))] (fun w hM=>UM (by (try have bz_:=Yu ‹Zf x x=_›);(try have bq_:=Yt ‹fdiv _ _=_›);exact fdS)) Kr Kr (TL.run 30 [] [(0,.fl x),(3,.fl (pQ40 r1))] rfl {} ?_)))))))))))))))))))))))))))))
 generalize hr2:fdiv (pQ35 r1) (pQ32 r1)=r2
 refine Zv (TL.run 2 [] [(0,.fl x),(36,.fl x),(37,.fl r2)] rfl {} (ZW (sV (binOp .mul 130 (.fl x) (.fl r2))) (some 38) (.fl (Zf x r2)) [(0,.fl x),(38,.fl (Zf x r2))] (fun w hM=>Y6 (by (try have bz_:=Yu ‹Zf x x=_›);(try have bq_:=Yt ‹fdiv _ _=_›);exact fmS)) Kr Kr (TL.run 4 [] [(38,.fl (Zf x r2)),(39,.fl x)] rfl {} (ZW (sV (binOp .add 130 (.fl (Zf x r2)) (.fl x))) (some 40) (.fl (Zn (Zf x r2) x)) [(40,.fl (Zn (Zf x r2) x))] (fun w hM=>Xn (by (try have bz_:=Yu ‹Zf x x=_›);(try have bq_:=Yt ‹fdiv _ _=_›);exact faS)) Kr Kr (TL.run 6 [] [(3,.fl (Zn (Zf x r2) x))] rfl {} ?_)))))
 generalize hr3:Zn (Zf x r2) x=r3
 exact Zv (TL.run 2 [] [(2,.fl r3)] rfl {} (Zb rfl (TC.ret (ZN (.inl rfl) r3 [] (.fl r3) {} rfl (fun _ hM=>(hM.sub (sb 0)).fact (by (try have bz_:=Yu ‹Zf x x=_›);(try have bq_:=Yt ‹fdiv _ _=_›);subst hr1 hr2 hr3;(try dsimp only);first|exact(have b_:=Yt ‹Zn _ x=_›;MX b_)|exact Q1))))))
theorem WU (x:Nat) (w:World) (hM:Sat ⟨w,XS []⟩ [] w) (hx:Po 25 x):Calls Tryz.prog 160 #[.fl x] w (JD (Γ:=Nat) ⟨w,XS []⟩ (fun g=>.fl g) (fun g=>[.inr (XG (Bd 44 g))])):=by
 refine YW (w0:=⟨w,XS []⟩) (vs:=[.fl x]) hM Tryz.func160 rfl Tryz.ntmps160 rfl (J2 [(0,.fl x)] Kr (Ze (TL.run 1 [] [(0,.fl x)] rfl {} (Zz (Ze (TL.run 2 [] [(0,.fl x),(4,.b (fle x 4604119971053405471))] rfl {} (Zb rfl (TC.cond (fle x 4604119971053405471) rfl Kr (fun h1=>?_) (fun h1=>?_)))))))))
 ·refine Ze (TL.run 1 [] [(5,.fl x)] rfl {} (Xx (Γ:=Nat) (fun g=>.fl g) (fun g=>[.inr (XG (Bd 40 g))]) [] [] (some 6) (fun g=>[(6,.fl g)]) (fun w hM=>Gg x w hM.pass (by have i_:=F4 (e:=25) (Ei h1);exact Q1)) Kr (fun g=>Kr) ?_))
  rintro r_
  exact YS [.inr (XG (Bd 40 r_))] (fun _ hM=>hM) (Y2 (fun w hM=>hM.fact_at 0 rfl) (fun we=>YK [] (.cons _ (aA _)) (TL.run 3 [] [(2,.fl r_)] rfl {} (Zb rfl (TC.ret (Zq (ZN (.inl rfl) r_ [] (.fl r_) {} rfl (fun _ hM=>(hM.sub (sb 0)).fact (by (try have bq_:=‹Bd 40 _›);(try dsimp only);first|exact Q1)))))))))
 ·refine Yg (TC.seq (Ze (TL.run 2 [] [(0,.fl x),(8,.b (fgt x 4612618744449965542))] rfl {} (Zb rfl (TC.cond (fgt x 4612618744449965542) rfl Kr (fun h2=>?_) (fun h2=>?_))))))
  ·refine Ze (TL.run 1 [] [(9,.fl x)] rfl {} (ZW (sV (binOp .quo 130 (.fl 4607182418800017408) (.fl x))) (some 10) (.fl (fdiv 4607182418800017408 x)) [(10,.fl (fdiv 4607182418800017408 x))] (fun w hM=>UM (by have i_:=MW (e:=25) (by decide) h2;exact fdS)) Kr Kr (Xx (Γ:=Nat) (fun g=>.fl g) (fun g=>[.inr (XG (Bd 40 g))]) [] [] (some 11) (fun g=>[(11,.fl g)]) (fun w hM=>Gg (fdiv 4607182418800017408 x) w hM.pass (by have i_:=MW (e:=25) (by decide) h2;exact MX Py)) Kr (fun g=>Kr) ?_)))
   rintro kf
   exact YS [.inr (XG (Bd 40 kf))] (fun _ hM=>hM) (Y2 (fun w hM=>hM.fact_at 0 rfl) (fun we=>YK [] (.cons _ (aA _)) (ZW (sV (binOp .sub 130 (.fl 4609753056924675352) (.fl kf))) (some 12) (.fl (YL 4609753056924675352 kf)) [(12,.fl (YL 4609753056924675352 kf))] (fun w hM=>Ua (by (try have bq_:=‹Bd 40 _›);exact fsS)) Kr Kr (ZW (sV (binOp .add 130 (.fl (YL 4609753056924675352 kf)) (.fl 4364452196894661639))) (some 13) (.fl (pQ0 kf)) [(13,.fl (pQ0 kf))] (fun w hM=>Xn (by (try have bq_:=‹Bd 40 _›);exact faS)) Kr Kr (TL.run 6 [] [(2,.fl (pQ0 kf))] rfl {} (Zb rfl (TC.ret (Zq (ZN (.inl rfl) (pQ0 kf) [] (.fl (pQ0 kf)) {} rfl (fun _ hM=>(hM.sub (sb 0)).fact (by (try have bq_:=‹Bd 40 _›);(try dsimp only);first|exact Q1)))))))))))
  ·refine ZI (TL.run 1 [] [(0,.fl x),(14,.fl x)] rfl {} (ZW (sV (binOp .sub 130 (.fl x) (.fl 4607182418800017408))) (some 15) (.fl (YL x 4607182418800017408)) [(0,.fl x),(15,.fl (YL x 4607182418800017408))] (fun w hM=>Ua (by (try have bq_:=‹Bd 40 _›);exact fsS)) Kr Kr (TL.run 3 [] [(15,.fl (YL x 4607182418800017408)),(16,.fl x)] rfl {} (ZW (sV (binOp .add 130 (.fl x) (.fl 4607182418800017408))) (some 17) (.fl (Zn x 4607182418800017408)) [(15,.fl (YL x 4607182418800017408)),(17,.fl (Zn x 4607182418800017408))] (fun w hM=>Xn (by (try have bq_:=‹Bd 40 _›);exact faS)) Kr Kr (ZW (sV (binOp .quo 130 (.fl (YL x 4607182418800017408)) (.fl (Zn x 4607182418800017408)))) (some 18) (.fl (pQ11 x)) [(18,.fl (pQ11 x))] (fun w hM=>UM (by (try have bq_:=‹Bd 40 _›);exact fdS)) Kr Kr (Xx (Γ:=Nat) (fun g=>.fl g) (fun g=>[.inr (XG (Bd 40 g))]) [] [] (some 19) (fun g=>[(19,.fl g)]) (fun w hM=>Gg (pQ11 x) w hM.pass (by have i_:=F4 (e:=25) h2;exact MX (Py (e:=3)))) Kr (fun g=>Kr) ?_))))))
   rintro jg
   exact YS [.inr (XG (Bd 40 jg))] (fun _ hM=>hM) (Y2 (fun w hM=>hM.fact_at 0 rfl) (fun we=>YK [] (.cons _ (aA _)) (ZW (sV (binOp .add 130 (.fl 4605249457297304856) (.fl jg))) (some 20) (.fl (Zn 4605249457297304856 jg)) [(20,.fl (Zn 4605249457297304856 jg))] (fun w hM=>Xn (by (try have bq_:=‹Bd 40 _›);exact faS)) Kr Kr (ZW (sV (binOp .add 130 (.fl (Zn 4605249457297304856 jg)) (.fl 4359948597267291143))) (some 21) (.fl (pQ1 jg)) [(21,.fl (pQ1 jg))] (fun w hM=>Xn (by (try have bq_:=‹Bd 40 _›);exact faS)) Kr Kr (TL.run 9 [] [(2,.fl (pQ1 jg))] rfl {} (Zb rfl (TC.ret (ZN (.inl rfl) (pQ1 jg) [] (.fl (pQ1 jg)) {} rfl (fun _ hM=>(hM.sub (sb 0)).fact (by (try have bq_:=‹Bd 40 _›);(try dsimp only);first|exact Q1))))))))))
theorem MY (x:Nat) (w:World) (hM:Sat ⟨w,XS []⟩ [] w) (hx:Bd 25 x):Calls Tryz.prog 153 #[.fl x] w (JD (Γ:=Nat) ⟨w,XS []⟩ (fun g=>.fl g) (fun g=>[.inr (XG (Bd 44 g))])):=by
 refine YW (w0:=⟨w,XS []⟩) (vs:=[.fl x]) hM Tryz.func153 rfl Tryz.ntmps153 rfl (J2 [(0,.fl x)] Kr (Ze (TL.run 1 [] [(0,.fl x)] rfl {} (Zz (Ze (TL.run 2 [] [(0,.fl x),(4,.b (feq x 0))] rfl {} (Zb rfl (TC.cond (feq x 0) rfl Kr (fun h1=>?_) (fun h1=>?_)))))))))
 ·exact Ze (TL.run 2 [] [(2,.fl x)] rfl {} (Zb rfl (TC.ret (Zq (ZN (.inl rfl) x [] (.fl x) {} rfl (fun _ hM=>(hM.sub (sb 0)).fact (by (try have bq_:=‹Bd 44 _›);(try dsimp only);first|exact Q1)))))))
 ·refine Yg (TC.seq (Ze (TL.run 2 [] [(0,.fl x),(7,.b (fgt x 0))] rfl {} (Zb rfl (TC.cond (fgt x 0) rfl Kr (fun h2=>?_) (fun h2=>?_))))))
  ·refine Ze (TL.run 1 [] [(8,.fl x)] rfl {} (Xx (Γ:=Nat) (fun g=>.fl g) (fun g=>[.inr (XG (Bd 44 g))]) [] [] (some 9) (fun g=>[(9,.fl g)]) (fun w hM=>WU x w hM.pass (P5 h2)) Kr (fun g=>Kr) ?_))
   rintro r_
   exact YS [.inr (XG (Bd 44 r_))] (fun _ hM=>hM) (Y2 (fun w hM=>hM.fact_at 0 rfl) (fun y7=>YK [] (.cons _ (aA _)) (TL.run 3 [] [(2,.fl r_)] rfl {} (Zb rfl (TC.ret (Zq (ZN (.inl rfl) r_ [] (.fl r_) {} rfl (fun _ hM=>(hM.sub (sb 0)).fact (by (try have bq_:=‹Bd 44 _›);(try dsimp only);first|exact Q1)))))))))
  ·refine ZI (TL.run 2 [] [(11,.fl (We x))] rfl {} (Xx (Γ:=Nat) (fun g=>.fl g) (fun g=>[.inr (XG (Bd 44 g))]) [] [] (some 12) (fun g=>[(12,.fl g)]) (fun w hM=>WU (We x) w hM.pass (TD h1 h2)) Kr (fun g=>Kr) ?_))
   rintro kf
   exact YS [.inr (XG (Bd 44 kf))] (fun _ hM=>hM) (Y2 (fun w hM=>hM.fact_at 0 rfl) (fun y7=>YK [] (.cons _ (aA _)) (TL.run 5 [] [(2,.fl (We kf))] rfl {} (Zb rfl (TC.ret (ZN (.inl rfl) (We kf) [] (.fl (We kf)) {} rfl (fun _ hM=>(hM.sub (sb 0)).fact (by (try have bq_:=‹Bd 44 _›);(try dsimp only);first|exact Q1))))))))
theorem MZ (x:Nat) (w:World) (hM:Sat ⟨w,XS []⟩ [] w) (hx:Bd 25 x):Calls Tryz.prog 138 #[.fl x] w (JD (Γ:=Nat) ⟨w,XS []⟩ (fun g=>.fl g) (fun g=>[.inr (XG (Bd 44 g))])):=by
 refine YW (w0:=⟨w,XS []⟩) (vs:=[.fl x]) hM Tryz.func138 rfl Tryz.ntmps138 rfl (J2 [(0,.fl x)] Kr (Ze (TL.run 1 [] [(0,.fl x)] rfl {} (Zz (Jr rfl Kr (ZI (TL.run 1 [] [(5,.fl x)] rfl {} (Xx (Γ:=Nat) (fun g=>.fl g) (fun g=>[.inr (XG (Bd 44 g))]) [] [] (some 6) (fun g=>[(6,.fl g)]) (fun w hM=>MY x w hM.pass hx) Kr (fun g=>Kr) ?_))))))))
 rintro r_
 exact YS [.inr (XG (Bd 44 r_))] (fun _ hM=>hM) (Y2 (fun w hM=>hM.fact_at 0 rfl) (fun ug=>YK [] (.cons _ (aA _)) (TL.run 3 [] [(2,.fl r_)] rfl {} (Zb rfl (TC.ret (ZN (.inl rfl) r_ [] (.fl r_) {} rfl (fun _ hM=>(hM.sub (sb 0)).fact (by (try dsimp only);first|exact ug))))))))
theorem BX {e x:Nat} [h:Bd e x] (he:e≤1000:=by decide):QV x=false:=BS he
theorem Gh {c y e f:Nat} [h:Bd e c] (hc:c<18446744073709551616) (hy:y<18446744073709551616) (hf:e≤f:=by decide):Bd f (Xj c y):=by
 have e1:∃ n:Nat,n%9223372036854775808=c%9223372036854775808∧Xj c y=n:=by
  unfold Xj
  rw[Uy hc]
  have f1:=GV (a:=y) (b:=9223372036854775808) hy (by decide)
  rw[show (((9223372036854775808:Nat)):Int)=9223372036854775808 from rfl] at f1
  have l1:y &&& 9223372036854775808=y/9223372036854775808*9223372036854775808:=by
   have hb:y/9223372036854775808<2:=by omega
   apply Nat.eq_of_testBit_eq
   intro i
   rw[show y/9223372036854775808*9223372036854775808=2 ^ 63*(y/2 ^ 63) from cS _ _,show (9223372036854775808:Nat)=2 ^ 63 from rfl,Nat.testBit_and,Nat.testBit_two_pow,Nat.testBit_two_pow_mul,Nat.testBit_div_two_pow]
   rcases fC i 63 with h3|h3|h3
   ·simp[show ¬ 63=i by omega,show ¬ i≥63 by omega]
   ·subst h3;simp
   ·have h4:y.testBit i=false:=Nat.testBit_lt_two_pow (bV hy (by have:=bP (show 0<2 by decide) (show 64≤i by omega);exact this))
    simp[show i-63+63=i by omega,h4]
  rw[f1,WS (by omega) (by rw[l1];omega),l1]
  refine⟨c%9223372036854775808 ||| y/9223372036854775808*9223372036854775808,?_,aP _⟩
  rw[Nat.or_comm,cS,show (9223372036854775808:Nat)=2 ^ 63 from rfl,← Nat.two_pow_add_eq_or_of_lt (eN _ (by decide))]
  omega
 obtain⟨n,h1,h2⟩:=e1
 rw[h2]
 exact MX (P8 (y:=c) h1) hf
set_option maxHeartbeats 4000000 in
theorem Nv (y:Nat) (x:Nat) (w:World) (hM:Sat ⟨w,XS []⟩ [] w) (hy:IsI y) (hx:IsI x):Calls Tryz.prog 101 #[.fl y,.fl x] w (JD (Γ:=Nat) ⟨w,XS []⟩ (fun g=>.fl g) (fun g=>[.inr (XG (Bd 46 g))])):=by
 refine YW (w0:=⟨w,XS []⟩) (vs:=[.fl y,.fl x]) hM Tryz.func101 rfl Tryz.ntmps101 rfl (J2 [(0,.fl y),(1,.fl x)] Kr (Ze (TL.run 1 [] [(0,.fl y),(1,.fl x)] rfl {} (Zz (TC.block (Ze (TL.run 1 [] [(0,.fl y),(1,.fl x),(7,.fl y)] rfl {} (TL.call (some 8) [(0,.fl y),(1,.fl x),(8,.b ((QV y)))] (fun w _=>VK y w) Kr Kr ?_))))))))
 generalize hr1:QV y=r1
 refine TL.run 3 [] [(0,.fl y),(1,.fl x),(9,.b r1)] rfl {} (Yo 9 r1 Kr (fun h1=>?_) (fun h1=>?_))
 ·exact((by have i_:=QN hy;rw[← hr1,BX] at h1;cases h1):False).elim
 ·refine TL.run 4 [] [(0,.fl y),(1,.fl x),(9,.b false),(10,.fl x)] rfl {} (TL.call (some 11) [(0,.fl y),(1,.fl x),(9,.b false),(11,.b ((QV x)))] (fun w _=>VK x w) Kr Kr ?_)
  generalize hr2:QV x=r2
  refine TL.run 7 [] [(0,.fl y),(1,.fl x),(6,.b r2)] rfl {} (Zb rfl (TC.cond r2 rfl Kr (fun h2=>?_) (fun h2=>?_)))
  ·exact((by have i_:=QN hx;rw[← hr2,BX] at h2;cases h2):False).elim
  ·refine Ze (TL.run 3 [] [(0,.fl y),(1,.fl x),(14,.b (feq y 0))] rfl {} (Zb rfl (TC.cond (feq y 0) rfl Kr (fun h3=>?_) (fun h3=>?_))))
   ·refine TC.seq (Ze (TL.run 3 [] [(0,.fl y),(1,.fl x),(19,.b (fge x 0))] rfl {} (Yo 19 (fge x 0) Kr (fun h4=>?_) (fun h4=>?_))))
    ·refine TL.run 4 [] [(0,.fl y),(19,.b true),(20,.fl x)] rfl {} (TL.call (some 21) [(0,.fl y),(19,.b true),(21,.b ((VL x)))] (fun w _=>BW x w) Kr Kr ?_)
     generalize hr3:VL x=r3
     refine TL.run 7 [] [(0,.fl y),(23,.b (!r3))] rfl {} (Zb rfl (TC.cond (!r3) rfl Kr (fun h5=>?_) (fun h5=>?_)))
     ·refine Ze (TL.run 1 [] [(24,.fl y)] rfl {} (TL.call (some 25) [(25,.fl (Xj 0 y))] (fun w _=>JP 0 y w) Kr Kr ?_))
      generalize hr4:Xj 0 y=r4
      refine TL.run 3 [] [(4,.fl r4)] rfl {} (Zb rfl (TC.ret (Zq (ZY (Zq ?_)))))
      exact ZN (.inl rfl) r4 [] (.fl r4) {} rfl (fun _ hM=>(hM.sub (sb 0)).fact (by have by_:=QN hy;have bx_:=QN hx;(try have bq_:=‹Bd 44 _›);subst hr1 hr2 hr3 hr4;(try dsimp only);first|exact Gh (by decide) (Gf hy)|exact Q1))
     ·refine ZI (TL.run 1 [] [(26,.fl y)] rfl {} (TL.call (some 27) [(27,.fl (Xj 4614256656552045848 y))] (fun w _=>JP 4614256656552045848 y w) Kr Kr ?_))
      generalize hr5:Xj 4614256656552045848 y=r5
      refine TL.run 3 [] [(4,.fl r5)] rfl {} (Zb rfl (TC.ret (ZY (Zq ?_))))
      exact ZN (.inl rfl) r5 [] (.fl r5) {} rfl (fun _ hM=>(hM.sub (sb 0)).fact (by have by_:=QN hy;have bx_:=QN hx;(try have bq_:=‹Bd 44 _›);subst hr1 hr2 hr3 hr5;(try dsimp only);first|exact Gh (by decide) (Gf hy)|exact Q1))
    ·refine TL.run 7 [] [(0,.fl y),(23,.b false)] rfl {} (Zb rfl (Jr rfl Kr (ZI (TL.run 1 [] [(26,.fl y)] rfl {} (TL.call (some 27) [(27,.fl (Xj 4614256656552045848 y))] (fun w _=>JP 4614256656552045848 y w) Kr Kr ?_)))))
     generalize hr6:Xj 4614256656552045848 y=r6
     refine TL.run 3 [] [(4,.fl r6)] rfl {} (Zb rfl (TC.ret (ZY (Zq ?_))))
     exact ZN (.inl rfl) r6 [] (.fl r6) {} rfl (fun _ hM=>(hM.sub (sb 0)).fact (by have by_:=QN hy;have bx_:=QN hx;(try have bq_:=‹Bd 44 _›);subst hr1 hr2 hr6;(try dsimp only);first|exact Gh (by decide) (Gf hy)|exact Q1))
   ·refine Ze (TL.run 3 [] [(0,.fl y),(1,.fl x),(28,.b (feq x 0))] rfl {} (Zb rfl (TC.cond (feq x 0) rfl Kr (fun h6=>?_) (fun h6=>?_))))
    ·refine Ze (TL.run 1 [] [(31,.fl y)] rfl {} (TL.call (some 32) [(32,.fl (Xj 4609753056924675352 y))] (fun w _=>JP 4609753056924675352 y w) Kr Kr ?_))
     generalize hr7:Xj 4609753056924675352 y=r7
     refine TL.run 3 [] [(4,.fl r7)] rfl {} (Zb rfl (TC.ret (ZY (Zq ?_))))
     exact ZN (.inl rfl) r7 [] (.fl r7) {} rfl (fun _ hM=>(hM.sub (sb 0)).fact (by have by_:=QN hy;have bx_:=QN hx;(try have bq_:=‹Bd 44 _›);subst hr1 hr2 hr7;(try dsimp only);first|exact Gh (by decide) (Gf hy)|exact Q1))
    ·refine Ze (TL.run 1 [] [(0,.fl y),(1,.fl x),(34,.fl x)] rfl {} (Xx (Γ:=Bool) (fun g=>.b g) (fun g=>[.inr (XG (g=false))]) [] [] (some 35) (fun g=>[(0,.fl y),(1,.fl x),(35,.b g)]) (fun w hM=>BV x 0 w hM.pass rfl (QN hx) (Gf hx)) Kr (fun g=>Kr) ?_))
     rintro r_
     refine YS [.inr (XG (r_=false))] (fun _ hM=>hM) (Y2 (fun w hM=>hM.fact_at 0 rfl) (fun vt=>YK [] (.cons _ (aA _)) (TL.run 3 [] [(0,.fl y),(1,.fl x),(33,.b r_)] rfl {} (Zb rfl (TC.cond r_ rfl Kr (fun h7=>?_) (fun h7=>?_))))))
     ·exact((by rw[vt] at h7;cases h7):False).elim
     ·refine Ze (TL.run 1 [] [(0,.fl y),(1,.fl x),(53,.fl y)] rfl {} (Xx (Γ:=Bool) (fun g=>.b g) (fun g=>[.inr (XG (g=false))]) [] [] (some 54) (fun g=>[(0,.fl y),(1,.fl x),(54,.b g)]) (fun w hM=>BV y 0 w hM.pass rfl (QN hy) (Gf hy)) Kr (fun g=>Kr) ?_))
      rintro kf
      refine YS [.inr (XG (kf=false))] (fun _ hM=>hM) (Y2 (fun w hM=>hM.fact_at 0 rfl) (fun vt=>YK [] (.cons _ (aA _)) (TL.run 3 [] [(0,.fl y),(1,.fl x),(52,.b kf)] rfl {} (Zb rfl (TC.cond kf rfl Kr (fun h8=>?_) (fun h8=>?_))))))
      ·exact((by rw[vt] at h8;cases h8):False).elim
      ·refine TC.skip (Yr (YZ (TL.run 2 [] [(1,.fl x),(57,.fl y),(58,.fl x)] rfl {} (ZW (sV (binOp .quo 130 (.fl y) (.fl x))) (some 59) (.fl (fdiv y x)) [(1,.fl x),(59,.fl (fdiv y x))] (fun w hM=>UM (by have by_:=QN hy;have bx_:=QN hx;(try have bq_:=‹Bd 44 _›);subst hr1 hr2;have i_:=P7 hx h6;exact fdS)) Kr Kr (Xx (Γ:=Nat) (fun g=>.fl g) (fun g=>[.inr (XG (Bd 44 g))]) [] [] (some 60) (fun g=>[(1,.fl x),(60,.fl g)]) (fun w hM=>MZ (fdiv y x) w hM.pass (by have by_:=QN hy;have bx_:=QN hx;(try have bq_:=‹Bd 44 _›);subst hr1 hr2;have i_:=P7 hx h6;exact Q1)) Kr (fun g=>Kr) ?_)))))
       rintro jg
       refine YS [.inr (XG (Bd 44 jg))] (fun _ hM=>hM) (Y2 (fun w hM=>hM.fact_at 0 rfl) (fun di=>YK [] (.cons _ (aA _)) (TL.run 5 [] [(1,.fl x),(5,.fl jg)] rfl {} (Zz (Ze (TL.run 2 [] [(5,.fl jg),(62,.b (flt x 0))] rfl {} (Zb rfl (TC.cond (flt x 0) rfl Kr (fun h9=>?_) (fun h9=>?_)))))))))
       ·refine TC.seq (Ze (TL.run 2 [] [(5,.fl jg),(64,.b (fle jg 0))] rfl {} (Zb rfl (TC.cond (fle jg 0) rfl Kr (fun h10=>?_) (fun h10=>?_)))))
        ·refine Ze (TL.run 1 [] [(65,.fl jg)] rfl {} (ZW (sV (binOp .add 130 (.fl jg) (.fl 4614256656552045848))) (some 66) (.fl (Zn jg 4614256656552045848)) [(66,.fl (Zn jg 4614256656552045848))] (fun w hM=>Xn (by have by_:=QN hy;have bx_:=QN hx;(try have bq_:=‹Bd 44 _›);exact faS)) Kr Kr (TL.run 3 [] [(4,.fl (Zn jg 4614256656552045848))] rfl {} (Zb rfl (TC.ret (Zq (Zq ?_)))))))
         exact ZN (.inl rfl) (Zn jg 4614256656552045848) [] (.fl (Zn jg 4614256656552045848)) {} rfl (fun _ hM=>(hM.sub (sb 0)).fact (by have by_:=QN hy;have bx_:=QN hx;(try have bq_:=‹Bd 44 _›);subst hr1 hr2;(try dsimp only);first|exact Gh (by decide) (Gf hy)|exact Q1))
        ·exact ZI (TL.run 1 [] [(67,.fl jg)] rfl {} (ZW (sV (binOp .sub 130 (.fl jg) (.fl 4614256656552045848))) (some 68) (.fl (YL jg 4614256656552045848)) [(68,.fl (YL jg 4614256656552045848))] (fun w hM=>Ua (by have by_:=QN hy;have bx_:=QN hx;(try have bq_:=‹Bd 44 _›);exact fsS)) Kr Kr (TL.run 3 [] [(4,.fl (YL jg 4614256656552045848))] rfl {} (Zb rfl (TC.ret (Zq (ZN (.inl rfl) (YL jg 4614256656552045848) [] (.fl (YL jg 4614256656552045848)) {} rfl (fun _ hM=>(hM.sub (sb 0)).fact (by have by_:=QN hy;have bx_:=QN hx;(try have bq_:=‹Bd 44 _›);subst hr1 hr2;(try dsimp only);first|exact Gh (by decide) (Gf hy)|exact Q1)))))))))
       ·exact ZI (TL.run 2 [] [(4,.fl jg)] rfl {} (Zb rfl (TC.ret (ZN (.inl rfl) jg [] (.fl jg) {} rfl (fun _ hM=>(hM.sub (sb 0)).fact (by have by_:=QN hy;have bx_:=QN hx;(try have bq_:=‹Bd 44 _›);subst hr1 hr2;(try dsimp only);first|exact Gh (by decide) (Gf hy)|exact Q1))))))
theorem Nw (y:Nat) (x:Nat) (w:World) (hM:Sat ⟨w,XS []⟩ [] w) (hy:IsI y) (hx:IsI x):Calls Tryz.prog 59 #[.fl y,.fl x] w (JD (Γ:=Nat) ⟨w,XS []⟩ (fun g=>.fl g) (fun g=>[.inr (XG (Bd 46 g))])):=by
 refine YW (w0:=⟨w,XS []⟩) (vs:=[.fl y,.fl x]) hM Tryz.func59 rfl Tryz.ntmps59 rfl (J2 [(0,.fl y),(1,.fl x)] Kr (Ze (TL.run 1 [] [(0,.fl y),(1,.fl x)] rfl {} (Zz (Jr rfl Kr (ZI (TL.run 2 [] [(8,.fl y),(9,.fl x)] rfl {} (Xx (Γ:=Nat) (fun g=>.fl g) (fun g=>[.inr (XG (Bd 46 g))]) [] [] (some 10) (fun g=>[(10,.fl g)]) (fun w hM=>Nv y x w hM.pass sg sg) Kr (fun g=>Kr) ?_))))))))
 rintro r_
 exact YS [.inr (XG (Bd 46 r_))] (fun _ hM=>hM) (Y2 (fun w hM=>hM.fact_at 0 rfl) (fun y8=>YK [] (.cons _ (aA _)) (TL.run 4 [] [(4,.fl r_)] rfl {} (Zb rfl (TC.ret (ZN (.inl rfl) r_ [] (.fl r_) {} rfl (fun _ hM=>(hM.sub (sb 0)).fact (by (try dsimp only);first|exact y8))))))))
end Go.Sky
end
section
namespace Go.Sky
open Go Go.Eng
abbrev pQ2 (a:Nat):Nat:=YL 4607182418800017408 (Zf 4602678819172646912 a)
def Ae:List Nat:=[4460209587652500685,13716528389658582877,4523617212962785441,13774824197404483331,4575957461383575504,13818544856648471880]
def Af:List Nat:=[13666448263388469915,4477121864728985349,13732177093698800582,4537941361668146421,13787419979223748497,4586165620538955083]
def Bh (x:Nat):Int:=f2i (Zf x 4608412980311869571)
def Ro (x:Nat):Bool:=Z6 .u64 (Bh x) 1==1
def La (x:Nat):Int:=bif Ro x then Z0 (Bh x+1) else Bh x
def Bi (x:Nat):Nat:=bif Ro x then Zn (dbl (Bh x)) 4607182418800017408 else dbl (Bh x)
def Nx (x:Nat):Int:=Z6 .u64 (La x) 7
def Bj (x:Nat):Nat:=YL (YL (YL x (Zf (Bi x) 4605249456957292544)) (Zf (Bi x) 4495793288086814720)) (Zf (Bi x) 4388835458085048688)
def Ek (a b c d e f z:Nat):Nat:=Zn (Zf (Zn (Zf (Zn (Zf (Zn (Zf (Zn (Zf a z) b) z) c) z) d) z) e) z) f
def Em (z zz:Nat):Nat:=Zn z (Zf (Zf z zz) (Ek 4460209587652500685 13716528389658582877 4523617212962785441 13774824197404483331 4575957461383575504 13818544856648471880 zz))
def En (zz:Nat):Nat:=Zn (pQ2 zz) (Zf (Zf zz zz) (Ek 13666448263388469915 4477121864728985349 13732177093698800582 4537941361668146421 13787419979223748497 4586165620538955083 zz))
def WV (j:Int) (z:Nat):Nat:=bif j==1||j==2 then En (Zf z z) else Em z (Zf z z)
def H6 (x:Nat):Nat :=
 bif feq x 0 then x
 else bif decide (Nx x>3) then We (WV (Z0 (Nx x-4)) (Bj x)) else WV (Nx x) (Bj x)
def I4 (n:Nat):Nat:=fdiv (Zf (dbl (n:Int)) 4614256656552045848) 4656722014701092864
structure W4 (w:World):Prop where
 «1»:Rn w 1 Af
 «2»:Rn w 2 Ae
theorem W4.sat {w0 w:World} {D:Nat→Prop} {M:Mem} (h:W4 w0) (hM:Sat ⟨w0,D⟩ M w) (hD1:¬ D 1:=by first|exact(fun h=>h)|exact Nu) (hD2:¬ D 2:=by first|exact(fun h=>h)|exact Nu):W4 w :=
 ⟨h.1.sat hM hD1,h.2.sat hM hD2⟩
end Go.Sky
end
section
namespace Go.Sky
open Go Go.Eng Go.Proofs
abbrev pQ3 (a:Nat):Nat:=Zn (Zf 13666448263388469915 a) 4477121864728985349
abbrev pQ4 (a:Nat):Nat:=Zn (Zf 4460209587652500685 a) 13716528389658582877
abbrev pQ8 (a:Nat):Nat:=Zf (pQ3 a) a
abbrev pQ9 (a:Nat):Nat:=Zf (pQ4 a) a
abbrev pQ13 (a:Nat):Nat:=Zn (pQ9 a) 4523617212962785441
abbrev pQ14 (a:Nat):Nat:=Zn (pQ8 a) 13732177093698800582
abbrev pQ17 (a:Nat):Nat:=Zf (pQ13 a) a
abbrev pQ18 (a:Nat):Nat:=Zf (pQ14 a) a
abbrev pQ21 (a:Nat):Nat:=Zn (pQ18 a) 4537941361668146421
abbrev pQ22 (a:Nat):Nat:=Zn (pQ17 a) 13774824197404483331
abbrev pQ25 (a:Nat):Nat:=Zf (pQ21 a) a
abbrev pQ26 (a:Nat):Nat:=Zf (pQ22 a) a
abbrev pQ29 (a:Nat):Nat:=Zn (pQ26 a) 4575957461383575504
abbrev pQ30 (a:Nat):Nat:=Zn (pQ25 a) 13787419979223748497
abbrev pQ33 (a:Nat):Nat:=Zf (pQ29 a) a
abbrev pQ34 (a:Nat):Nat:=Zf (pQ30 a) a
abbrev pQ36 (a:Nat):Nat:=Zn (pQ34 a) 4586165620538955083
abbrev pQ37 (a:Nat):Nat:=Zn (pQ33 a) 13818544856648471880
abbrev pQ38 (a:Nat):Nat:=Zf (Zf a a) (pQ36 a)
abbrev pQ39 (a:Nat):Nat:=Zn (pQ2 a) (pQ38 a)
theorem Ag {x:Nat} [h:Po 14 x]:0≤Bh x∧(Bh x).natAbs≤2 ^ 15:=I1 (e:=15)
theorem Ny {x:Nat} [h:Po 14 x]:Po 16 (dbl (f2i (Zf x 4608412980311869571))):=by
 have s:=Ag (x:=x)
 exact P1 16 (show (Bh x).natAbs<2 ^ 16 by have:=s.2;omega) s.1
theorem Ah {x:Nat} [h:Po 14 x] (h2:Z6 .u64 (f2i (Zf x 4608412980311869571)) 1=1):Z0 (f2i (Zf x 4608412980311869571)+1)=La x∧Zn (dbl (f2i (Zf x 4608412980311869571))) 4607182418800017408=Bi x∧Po 17 (Zn (dbl (f2i (Zf x 4608412980311869571))) 4607182418800017408):=by
 have o:Ro x=true:=by unfold Ro Bh;rw[h2];rfl
 refine⟨by unfold La;rw[o];rfl,by unfold Bi;rw[o];rfl,?_⟩
 have i_:=Ny (x:=x)
 exact Ns
theorem Ai {x:Nat} [h:Po 14 x] (h2:¬ Z6 .u64 (f2i (Zf x 4608412980311869571)) 1=1):f2i (Zf x 4608412980311869571)=La x∧dbl (f2i (Zf x 4608412980311869571))=Bi x∧Po 17 (dbl (f2i (Zf x 4608412980311869571))):=by
 have o:Ro x=false:=by unfold Ro Bh;exact beq_false_of_ne h2
 refine⟨by unfold La;rw[o];rfl,by unfold Bi;rw[o];rfl,?_⟩
 exact P6 (Ny (x:=x))
theorem I5 {x:Nat} (h:feq x 0=true):x=H6 x:=by unfold H6;rw[h];rfl
def DR (x:Nat):Bool:=decide (Nx x>3)
def Uc (x:Nat):Int:=bif DR x then Z0 (Nx x-4) else Nx x
theorem CL {x:Nat} (h:feq x 0=false):H6 x=bif DR x then We (WV (Uc x) (Bj x)) else WV (Uc x) (Bj x):=by
 unfold H6 Uc DR;rw[h]
 cases decide (Nx x>3) <;> rfl
theorem Aj {x:Nat} {j:Int} (hj:j=La x) (h:Z6 .u64 j 7>3):true=DR x∧Z0 (Z6 .u64 j 7-4)=Uc x:=by
 subst hj
 have o:DR x=true:=decide_eq_true h
 exact⟨o.symm,by unfold Uc;rw[o];rfl⟩
theorem Ak {x:Nat} {j:Int} (hj:j=La x) (h:¬ Z6 .u64 j 7>3):false=DR x∧Z6 .u64 j 7=Uc x:=by
 subst hj
 have o:DR x=false:=decide_eq_false h
 exact⟨o.symm,by unfold Uc;rw[o];rfl⟩
theorem q_T {x y0 z zz:Nat} {j:Int} (hj:j=Uc x) (h0:y0=Bi x) (hz:YL (YL (YL x (Zf y0 4605249456957292544)) (Zf y0 4495793288086814720)) (Zf y0 4388835458085048688)=z) (hzz:Zf z z=zz) (h:(j==1||j==2)=true):En zz=WV (Uc x) (Bj x):=by
 subst h0 hz hzz hj
 unfold WV;rw[h];rfl
theorem q_F {x y0 z zz:Nat} {j:Int} (hj:j=Uc x) (h0:y0=Bi x) (hz:YL (YL (YL x (Zf y0 4605249456957292544)) (Zf y0 4495793288086814720)) (Zf y0 4388835458085048688)=z) (hzz:Zf z z=zz) (h:(j==1||j==2)=false):Em z zz=WV (Uc x) (Bj x):=by
 subst h0 hz hzz hj
 unfold WV;rw[h];rfl
theorem I6 {x y:Nat} {s:Bool} (h:feq x 0=false) (hs:s=DR x) (h1:s=true) (hy:y=WV (Uc x) (Bj x)):We y=H6 x:=by
 subst hy
 rw[CL h,← hs,h1];rfl
theorem I7 {x y:Nat} {s:Bool} (h:feq x 0=false) (hs:s=DR x) (h1:s=false) (hy:y=WV (Uc x) (Bj x)):y=H6 x:=by
 subst hy
 rw[CL h,← hs,h1];rfl
set_option maxHeartbeats 4000000 in
theorem Rq (x:Nat) (w:World) (hM:Sat ⟨w,XS []⟩ [] w) (hx:Po 14 x) (hl:x<18446744073709551616) (hT:W4 w):Calls Tryz.prog 155 #[.fl x] w (JD (Γ:=Nat) ⟨w,XS []⟩ (fun g=>.fl g) (fun g=>[.inr (XG (g=H6 x))])):=by
 refine YW (w0:=⟨w,XS []⟩) (vs:=[.fl x]) hM Tryz.func155 rfl Tryz.ntmps155 rfl (J2 [(0,.fl x)] Kr (Ze (TL.run 1 [] [(0,.fl x)] rfl {} (Zz (TC.block (Ze (TL.run 3 [] [(0,.fl x),(11,.b (feq x 0))] rfl {} (Yo 11 (feq x 0) Kr (fun h1=>?_) (fun h1=>?_)))))))))
 ·refine TL.run 7 [] [(0,.fl x),(8,.b true)] rfl {} (Zb rfl (Xo rfl Kr (Ze (TL.run 2 [] [(2,.fl x)] rfl {} (Zb rfl (TC.ret (ZY (Zq ?_))))))))
  exact ZN (.inl rfl) x [] (.fl x) {} rfl (fun _ hM=>(hM.sub (sb 0)).fact (by (try have by_:=hm4.2.2);(try have bz_:=Yt hr2);(try have xk:=Yu hr3);(try dsimp only);first|exact I5 h1|exact I6 h1 hm5.1 (by assumption) hm6|exact I7 h1 hm5.1 (by assumption) hm6))
 ·refine TL.run 4 [] [(0,.fl x),(11,.b false),(12,.fl x)] rfl {} (TL.call (some 13) [(0,.fl x),(11,.b false),(13,.b ((QV x)))] (fun w _=>VK x w) Kr Kr ?_)
  generalize hr1:QV x=r1
  refine TL.run 7 [] [(0,.fl x),(8,.b r1)] rfl {} (Zb rfl (TC.cond r1 rfl Kr (fun h2=>?_) (fun h2=>?_)))
  ·exact((by rw[← hr1,BX] at h2;cases h2):False).elim
  ·refine Ze (TL.run 1 [] [(0,.fl x),(17,.fl x)] rfl {} (Xx (Γ:=Bool) (fun g=>.b g) (fun g=>[.inr (XG (g=false))]) [] [] (some 18) (fun g=>[(0,.fl x),(18,.b g)]) (fun w hM=>BV x 0 w hM.pass rfl Q1 hl) Kr (fun g=>Kr) ?_))
   rintro r_
   refine YS [.inr (XG (r_=false))] (fun _ hM=>hM) (Y2 (fun w hM=>hM.fact_at 0 rfl) (fun vt=>YK [] (.cons _ (aA _)) (TL.run 3 [] [(0,.fl x),(16,.b r_)] rfl {} (Zb rfl (TC.cond r_ rfl Kr (fun h3=>?_) (fun h3=>?_))))))
   ·exact((by rw[vt] at h3;cases h3):False).elim
   ·refine TC.skip (Yr (YZ (TL.run 1 [] [(0,.fl x),(3,.b false)] rfl {} (Zz (Ze (TL.run 2 [] [(0,.fl x),(3,.b false),(21,.b (flt x 0))] rfl {} (Zb rfl (TC.cond (flt x 0) rfl Kr (fun h4=>?_) (fun h4=>?_)))))))))
    ·exact((by rw[I2] at h4;cases h4):False).elim
    ·refine ZI (TL.run 1 [] [(0,.fl x),(3,.b false)] rfl {} (Zv (TL.run 2 [] [(0,.fl x),(3,.b false)] rfl {} (Zz (Ze (TL.run 2 [] [(0,.fl x),(3,.b false),(25,.b (fge x 4737786807993761792))] rfl {} (Zb rfl (TC.cond (fge x 4737786807993761792) rfl Kr (fun h5=>?_) (fun h5=>?_)))))))))
     ·exact((by rw[Eh] at h5;cases h5):False).elim
     ·refine Ze (TL.run 1 [] [(0,.fl x),(3,.b false),(31,.fl x)] rfl {} (ZW (sV (binOp .mul 130 (.fl x) (.fl 4608412980311869571))) (some 32) (.fl (Zf x 4608412980311869571)) [(0,.fl x),(3,.b false),(32,.fl (Zf x 4608412980311869571))] (fun w hM=>Y6 (by (try have by_:=hm4.2.2);(try have bz_:=Yt hr2);(try have xk:=Yu hr3);exact fmS)) Kr Kr (ZW (sV (convert 130 82 (.fl (Zf x 4608412980311869571)))) (some 33) (.int .u64 (f2i (Zf x 4608412980311869571))) [(0,.fl x),(3,.b false),(33,.int .u64 (f2i (Zf x 4608412980311869571)))] (fun w hM=>Nj Kr Kr (by (try have by_:=hm4.2.2);(try have bz_:=Yt hr2);(try have xk:=Yu hr3);exact Ee)) Kr Kr (TL.run 4 [] [(0,.fl x),(3,.b false),(4,.int .u64 (f2i (Zf x 4608412980311869571)))] rfl {} (Zv (TL.run 3 [] [(0,.fl x),(3,.b false),(4,.int .u64 (f2i (Zf x 4608412980311869571))),(5,.fl (dbl (f2i (Zf x 4608412980311869571))))] rfl {} (Zz (Ze (TL.run 3 [] [(0,.fl x),(3,.b false),(4,.int .u64 (f2i (Zf x 4608412980311869571))),(5,.fl (dbl (f2i (Zf x 4608412980311869571)))),(38,.b ((Z6 .u64 (f2i (Zf x 4608412980311869571)) 1)==1))] rfl {} (Zb rfl (TC.cut (S:=Int×Nat) (fun (j,y)=>[(0,.fl x),(3,.b false),(4,.int .u64 j),(5,.fl y)]) (fun (j,y)=>[]) (fun (j,y)=>(j=La x∧y=Bi x∧Po 17 y)) ?_ ?_)))))))))))
      ·refine TC.cond ((Z6 .u64 (f2i (Zf x 4608412980311869571)) 1)==1) rfl Kr (fun h6=>?_) (fun h6=>?_)
       ·exact Ze (TL.run 3 [] [(0,.fl x),(3,.b false),(4,.int .u64 (Z0 ((f2i (Zf x 4608412980311869571))+1))),(5,.fl (dbl (f2i (Zf x 4608412980311869571))))] rfl {} (Zb rfl (TC.region (TL.run 1 [] [(0,.fl x),(3,.b false),(4,.int .u64 (Z0 ((f2i (Zf x 4608412980311869571))+1))),(41,.fl (dbl (f2i (Zf x 4608412980311869571))))] rfl {} (ZW (sV (binOp .add 130 (.fl (dbl (f2i (Zf x 4608412980311869571)))) (.fl 4607182418800017408))) (some 42) (.fl (Zn (dbl (f2i (Zf x 4608412980311869571))) 4607182418800017408)) [(0,.fl x),(3,.b false),(4,.int .u64 (Z0 ((f2i (Zf x 4608412980311869571))+1))),(42,.fl (Zn (dbl (f2i (Zf x 4608412980311869571))) 4607182418800017408))] (fun w hM=>Xn (by have i_:=Ny (x:=x);exact faS)) Kr Kr (TL.run 3 [] [(0,.fl x),(3,.b false),(4,.int .u64 (Z0 ((f2i (Zf x 4608412980311869571))+1))),(5,.fl (Zn (dbl (f2i (Zf x 4608412980311869571))) 4607182418800017408))] rfl {} (Z2 rfl (TE.cut (Z0 ((f2i (Zf x 4608412980311869571))+1),Zn (dbl (f2i (Zf x 4608412980311869571))) 4607182418800017408) (by have q0_:=(Xf h6);(try have by_:=hm4.2.2);(try have bz_:=Yt hr2);(try have xk:=Yu hr3);subst hr1;(try dsimp only);first|exact Ah (beq_iff_eq.1 (by assumption))|exact Ai (beq_eq_false_iff_ne.1 (by assumption))) Kr (sb 0)))))))))
       ·exact TC.skip (TE.cut (f2i (Zf x 4608412980311869571),dbl (f2i (Zf x 4608412980311869571))) (by have q0_:=(Yh h6);(try have by_:=hm4.2.2);(try have bz_:=Yt hr2);(try have xk:=Yu hr3);subst hr1;(try dsimp only);first|exact Ah (beq_iff_eq.1 (by assumption))|exact Ai (beq_eq_false_iff_ne.1 (by assumption))) Kr (sb 0))
      ·rintro⟨j,y⟩ hm4
       refine YZ (TL.run 3 [] [(0,.fl x),(3,.b false),(4,.int .u64 (Z6 .u64 j 7)),(5,.fl y)] rfl {} (Zb rfl (TC.region (TL.run 2 [] [(3,.b false),(4,.int .u64 (Z6 .u64 j 7)),(5,.fl y),(45,.fl x),(46,.fl y)] rfl {} (ZW (sV (binOp .mul 130 (.fl y) (.fl 4605249456957292544))) (some 47) (.fl (Zf y 4605249456957292544)) [(3,.b false),(4,.int .u64 (Z6 .u64 j 7)),(5,.fl y),(45,.fl x),(47,.fl (Zf y 4605249456957292544))] (fun w hM=>Y6 (by (try have by_:=hm4.2.2);(try have bz_:=Yt hr2);(try have xk:=Yu hr3);exact fmS)) Kr Kr (ZW (sV (binOp .sub 130 (.fl x) (.fl (Zf y 4605249456957292544)))) (some 48) (.fl (YL x (Zf y 4605249456957292544))) [(3,.b false),(4,.int .u64 (Z6 .u64 j 7)),(5,.fl y),(48,.fl (YL x (Zf y 4605249456957292544)))] (fun w hM=>Ua (by (try have by_:=hm4.2.2);(try have bz_:=Yt hr2);(try have xk:=Yu hr3);exact fsS)) Kr Kr (TL.run 5 [] [(3,.b false),(4,.int .u64 (Z6 .u64 j 7)),(5,.fl y),(48,.fl (YL x (Zf y 4605249456957292544))),(49,.fl y)] rfl {} (ZW (sV (binOp .mul 130 (.fl y) (.fl 4495793288086814720))) (some 50) (.fl (Zf y 4495793288086814720)) [(3,.b false),(4,.int .u64 (Z6 .u64 j 7)),(5,.fl y),(48,.fl (YL x (Zf y 4605249456957292544))),(50,.fl (Zf y 4495793288086814720))] (fun w hM=>Y6 (by (try have by_:=hm4.2.2);(try have bz_:=Yt hr2);(try have xk:=Yu hr3);exact fmS)) Kr Kr (ZW (sV (binOp .sub 130 (.fl (YL x (Zf y 4605249456957292544))) (.fl (Zf y 4495793288086814720)))) (some 51) (.fl (YL (YL x (Zf y 4605249456957292544)) (Zf y 4495793288086814720))) [(3,.b false),(4,.int .u64 (Z6 .u64 j 7)),(5,.fl y),(51,.fl (YL (YL x (Zf y 4605249456957292544)) (Zf y 4495793288086814720)))] (fun w hM=>Ua (by (try have by_:=hm4.2.2);(try have bz_:=Yt hr2);(try have xk:=Yu hr3);exact fsS)) Kr Kr (TL.run 8 [] [(3,.b false),(4,.int .u64 (Z6 .u64 j 7)),(51,.fl (YL (YL x (Zf y 4605249456957292544)) (Zf y 4495793288086814720))),(52,.fl y)] rfl {} (ZW (sV (binOp .mul 130 (.fl y) (.fl 4388835458085048688))) (some 53) (.fl (Zf y 4388835458085048688)) [(3,.b false),(4,.int .u64 (Z6 .u64 j 7)),(51,.fl (YL (YL x (Zf y 4605249456957292544)) (Zf y 4495793288086814720))),(53,.fl (Zf y 4388835458085048688))] (fun w hM=>Y6 (by (try have by_:=hm4.2.2);(try have bz_:=Yt hr2);(try have xk:=Yu hr3);exact fmS)) Kr Kr (ZW (sV (binOp .sub 130 (.fl (YL (YL x (Zf y 4605249456957292544)) (Zf y 4495793288086814720))) (.fl (Zf y 4388835458085048688)))) (some 54) (.fl (YL (YL (YL x (Zf y 4605249456957292544)) (Zf y 4495793288086814720)) (Zf y 4388835458085048688))) [(3,.b false),(4,.int .u64 (Z6 .u64 j 7)),(54,.fl (YL (YL (YL x (Zf y 4605249456957292544)) (Zf y 4495793288086814720)) (Zf y 4388835458085048688)))] (fun w hM=>Ua (by (try have by_:=hm4.2.2);(try have bz_:=Yt hr2);(try have xk:=Yu hr3);exact fsS)) Kr Kr (TL.run 11 [] [(3,.b false),(4,.int .u64 (Z6 .u64 j 7)),(6,.fl (YL (YL (YL x (Zf y 4605249456957292544)) (Zf y 4495793288086814720)) (Zf y 4388835458085048688)))] rfl {} ?_)))))))))))))
       generalize hr2:YL (YL (YL x (Zf y 4605249456957292544)) (Zf y 4495793288086814720)) (Zf y 4388835458085048688)=r2
       refine Zz (Ze (TL.run 2 [] [(3,.b false),(4,.int .u64 (Z6 .u64 j 7)),(6,.fl r2),(56,.b (decide ((Z6 .u64 j 7)>3)))] rfl {} (Zb rfl (TC.cut (S:=Bool×Int) (fun (sign,j_2)=>[(3,.b sign),(4,.int .u64 j_2),(6,.fl r2)]) (fun (sign,j_2)=>[]) (fun (sign,j_2)=>(sign=DR x∧j_2=Uc x)) ?_ ?_))))
       ·refine TC.cond (decide ((Z6 .u64 j 7)>3)) rfl Kr (fun h7=>?_) (fun h7=>?_)
        ·exact Ze (TL.run 3 [] [(3,.b true),(4,.int .u64 (Z6 .u64 j 7)),(6,.fl r2)] rfl {} (Zb rfl (TC.region (TL.run 3 [] [(3,.b true),(4,.int .u64 (Z0 ((Z6 .u64 j 7)-4))),(6,.fl r2)] rfl {} (Z2 rfl (TE.cut (true,Z0 ((Z6 .u64 j 7)-4)) (by have q0_:=(Ys h7);(try have by_:=hm4.2.2);(try have bz_:=Yt hr2);(try have xk:=Yu hr3);subst hr1 hr2;(try dsimp only);first|exact Aj hm4.1 (by omega)|exact Ak hm4.1 (by omega)) Kr (sb 0)))))))
        ·exact TC.skip (TE.cut (false,Z6 .u64 j 7) (by have q0_:=(Zt h7);(try have by_:=hm4.2.2);(try have bz_:=Yt hr2);(try have xk:=Yu hr3);subst hr1 hr2;(try dsimp only);first|exact Aj hm4.1 (by omega)|exact Ak hm4.1 (by omega)) Kr (sb 0))
       ·rintro⟨sign,j_2⟩ hm5
        refine YZ (TL.run 2 [] [(3,.b sign),(4,.int .u64 j_2),(6,.fl r2),(61,.fl r2),(62,.fl r2)] rfl {} (ZW (sV (binOp .mul 130 (.fl r2) (.fl r2))) (some 63) (.fl (Zf r2 r2)) [(3,.b sign),(4,.int .u64 j_2),(6,.fl r2),(63,.fl (Zf r2 r2))] (fun w hM=>Y6 (by (try have by_:=hm4.2.2);(try have bz_:=Yt hr2);(try have xk:=Yu hr3);exact fmS)) Kr Kr (TL.run 4 [] [(3,.b sign),(4,.int .u64 j_2),(6,.fl r2),(7,.fl (Zf r2 r2))] rfl {} ?_)))
        generalize hr3:Zf r2 r2=r3
        refine Zz (Ze (TL.run 3 [] [(3,.b sign),(4,.int .u64 j_2),(6,.fl r2),(7,.fl r3),(66,.b (j_2==1))] rfl {} (VR 66 (j_2==1) 6 [] [] (fun β=>[(3,.b sign),(6,.fl r2),(7,.fl r3),(69,.b (β||(j_2==2)))]) Kr rfl {} {} (Zb rfl (TC.cut (S:=Nat) (fun y_2=>[(3,.b sign),(5,.fl y_2)]) (fun y_2=>[]) (fun y_2=>(y_2=WV (Uc x) (Bj x))) ?_ ?_)))))
        ·refine TC.cond ((j_2==1)||(j_2==2)) rfl Kr (fun h8=>?_) (fun h8=>?_)
         ·exact TC.region (TL.run 1 [] [(3,.b sign),(7,.fl r3),(70,.fl r3)] rfl {} (ZW (sV (binOp .mul 130 (.fl 4602678819172646912) (.fl r3))) (some 71) (.fl (Zf 4602678819172646912 r3)) [(3,.b sign),(7,.fl r3),(71,.fl (Zf 4602678819172646912 r3))] (fun w hM=>Y6 (by have q0_:=((UV h8).imp (fun h=>(Xf h)) (fun h=>(Xf h)));(try have by_:=hm4.2.2);(try have bz_:=Yt hr2);(try have xk:=Yu hr3);exact fmS)) Kr Kr (ZW (sV (binOp .sub 130 (.fl 4607182418800017408) (.fl (Zf 4602678819172646912 r3)))) (some 72) (.fl (pQ2 r3)) [(3,.b sign),(7,.fl r3),(72,.fl (pQ2 r3))] (fun w hM=>Ua (by have q0_:=((UV h8).imp (fun h=>(Xf h)) (fun h=>(Xf h)));(try have by_:=hm4.2.2);(try have bz_:=Yt hr2);(try have xk:=Yu hr3);exact fsS)) Kr Kr (TL.run 5 [] [(3,.b sign),(7,.fl r3),(72,.fl (pQ2 r3)),(73,.fl r3),(74,.fl r3)] rfl {} (ZW (sV (binOp .mul 130 (.fl r3) (.fl r3))) (some 75) (.fl (Zf r3 r3)) [(3,.b sign),(7,.fl r3),(72,.fl (pQ2 r3)),(75,.fl (Zf r3 r3))] (fun w hM=>Y6 (by have q0_:=((UV h8).imp (fun h=>(Xf h)) (fun h=>(Xf h)));(try have by_:=hm4.2.2);(try have bz_:=Yt hr2);(try have xk:=Yu hr3);exact fmS)) Kr Kr (TL.run 7 [] [(3,.b sign),(7,.fl r3),(72,.fl (pQ2 r3)),(75,.fl (Zf r3 r3)),(76,.p0 1)] rfl {} (ZW (sV (Instr.loadAt 130 (.p0 1))) (some 77) (.fl 13666448263388469915) [(3,.b sign),(7,.fl r3),(72,.fl (pQ2 r3)),(75,.fl (Zf r3 r3)),(77,.fl 13666448263388469915)] (fun w hM=>Qi (i:=0) ((hT.1).sat hM) rfl Kr) Kr Kr (TL.run 9 [] [(3,.b sign),(7,.fl r3),(72,.fl (pQ2 r3)),(75,.fl (Zf r3 r3)),(77,.fl 13666448263388469915),(78,.fl r3)] rfl {} (ZW (sV (binOp .mul 130 (.fl 13666448263388469915) (.fl r3))) (some 79) (.fl (Zf 13666448263388469915 r3)) [(3,.b sign),(7,.fl r3),(72,.fl (pQ2 r3)),(75,.fl (Zf r3 r3)),(79,.fl (Zf 13666448263388469915 r3))] (fun w hM=>Y6 (by have q0_:=((UV h8).imp (fun h=>(Xf h)) (fun h=>(Xf h)));(try have by_:=hm4.2.2);(try have bz_:=Yt hr2);(try have xk:=Yu hr3);exact fmS)) Kr Kr (TL.run 11 [] [(3,.b sign),(7,.fl r3),(72,.fl (pQ2 r3)),(75,.fl (Zf r3 r3)),(79,.fl (Zf 13666448263388469915 r3)),(80,.pt 1 1)] rfl {} (ZW (sV (Instr.loadAt 130 (.pt 1 1))) (some 81) (.fl 4477121864728985349) [(3,.b sign),(7,.fl r3),(72,.fl (pQ2 r3)),(75,.fl (Zf r3 r3)),(79,.fl (Zf 13666448263388469915 r3)),(81,.fl 4477121864728985349)] (fun w hM=>Qi (i:=1) ((hT.1).sat hM) rfl Kr) Kr Kr (ZW (sV (binOp .add 130 (.fl (Zf 13666448263388469915 r3)) (.fl 4477121864728985349))) (some 82) (.fl (pQ3 r3)) [(3,.b sign),(7,.fl r3),(72,.fl (pQ2 r3)),(75,.fl (Zf r3 r3)),(82,.fl (pQ3 r3))] (fun w hM=>Xn (by have q0_:=((UV h8).imp (fun h=>(Xf h)) (fun h=>(Xf h)));(try have by_:=hm4.2.2);(try have bz_:=Yt hr2);(try have xk:=Yu hr3);exact faS)) Kr Kr (TL.run 14 [] [(3,.b sign),(7,.fl r3),(72,.fl (pQ2 r3)),(75,.fl (Zf r3 r3)),(82,.fl (pQ3 r3)),(83,.fl r3)] rfl {} (ZW (sV (binOp .mul 130 (.fl (pQ3 r3)) (.fl r3))) (some 84) (.fl (pQ8 r3)) [(3,.b sign),(7,.fl r3),(72,.fl (pQ2 r3)),(75,.fl (Zf r3 r3)),(84,.fl (pQ8 r3))] (fun w hM=>Y6 (by have q0_:=((UV h8).imp (fun h=>(Xf h)) (fun h=>(Xf h)));(try have by_:=hm4.2.2);(try have bz_:=Yt hr2);(try have xk:=Yu hr3);exact fmS)) Kr Kr (TL.run 16 [] [(3,.b sign),(7,.fl r3),(72,.fl (pQ2 r3)),(75,.fl (Zf r3 r3)),(84,.fl (pQ8 r3)),(85,.pt 1 2)] rfl {} (ZW (sV (Instr.loadAt 130 (.pt 1 2))) (some 86) (.fl 13732177093698800582) [(3,.b sign),(7,.fl r3),(72,.fl (pQ2 r3)),(75,.fl (Zf r3 r3)),(84,.fl (pQ8 r3)),(86,.fl 13732177093698800582)] (fun w hM=>Qi (i:=2) ((hT.1).sat hM) rfl Kr) Kr Kr (ZW (sV (binOp .add 130 (.fl (pQ8 r3)) (.fl 13732177093698800582))) (some 87) (.fl (pQ14 r3)) [(3,.b sign),(7,.fl r3),(72,.fl (pQ2 r3)),(75,.fl (Zf r3 r3)),(87,.fl (pQ14 r3))] (fun w hM=>Xn (by have q0_:=((UV h8).imp (fun h=>(Xf h)) (fun h=>(Xf h)));(try have by_:=hm4.2.2);(try have bz_:=Yt hr2);(try have xk:=Yu hr3);exact faS)) Kr Kr (TL.run 19 [] [(3,.b sign),(7,.fl r3),(72,.fl (pQ2 r3)),(75,.fl (Zf r3 r3)),(87,.fl (pQ14 r3)),(88,.fl r3)] rfl {} (ZW (sV (binOp .mul 130 (.fl (pQ14 r3)) (.fl r3))) (some 89) (.fl (pQ18 r3)) [(3,.b sign),(7,.fl r3),(72,.fl (pQ2 r3)),(75,.fl (Zf r3 r3)),(89,.fl (pQ18 r3))] (fun w hM=>Y6 (by have q0_:=((UV h8).imp (fun h=>(Xf h)) (fun h=>(Xf h)));(try have by_:=hm4.2.2);(try have bz_:=Yt hr2);(try have xk:=Yu hr3);exact fmS)) Kr Kr (TL.run 21 [] [(3,.b sign),(7,.fl r3),(72,.fl (pQ2 r3)),(75,.fl (Zf r3 r3)),(89,.fl (pQ18 r3)),(90,.pt 1 3)] rfl {} (ZW (sV (Instr.loadAt 130 (.pt 1 3))) (some 91) (.fl 4537941361668146421) [(3,.b sign),(7,.fl r3),(72,.fl (pQ2 r3)),(75,.fl (Zf r3 r3)),(89,.fl (pQ18 r3)),(91,.fl 4537941361668146421)] (fun w hM=>Qi (i:=3) ((hT.1).sat hM) rfl Kr) Kr Kr (ZW (sV (binOp .add 130 (.fl (pQ18 r3)) (.fl 4537941361668146421))) (some 92) (.fl (pQ21 r3)) [(3,.b sign),(7,.fl r3),(72,.fl (pQ2 r3)),(75,.fl (Zf r3 r3)),(92,.fl (pQ21 r3))] (fun w hM=>Xn (by have q0_:=((UV h8).imp (fun h=>(Xf h)) (fun h=>(Xf h)));(try have by_:=hm4.2.2);(try have bz_:=Yt hr2);(try have xk:=Yu hr3);exact faS)) Kr Kr (TL.run 24 [] [(3,.b sign),(7,.fl r3),(72,.fl (pQ2 r3)),(75,.fl (Zf r3 r3)),(92,.fl (pQ21 r3)),(93,.fl r3)] rfl {} (ZW (sV (binOp .mul 130 (.fl (pQ21 r3)) (.fl r3))) (some 94) (.fl (pQ25 r3)) [(3,.b sign),(7,.fl r3),(72,.fl (pQ2 r3)),(75,.fl (Zf r3 r3)),(94,.fl (pQ25 r3))] (fun w hM=>Y6 (by have q0_:=((UV h8).imp (fun h=>(Xf h)) (fun h=>(Xf h)));(try have by_:=hm4.2.2);(try have bz_:=Yt hr2);(try have xk:=Yu hr3);exact fmS)) Kr Kr (TL.run 26 [] [(3,.b sign),(7,.fl r3),(72,.fl (pQ2 r3)),(75,.fl (Zf r3 r3)),(94,.fl (pQ25 r3)),(95,.pt 1 4)] rfl {} (ZW (sV (Instr.loadAt 130 (.pt 1 4))) (some 96) (.fl 13787419979223748497) [(3,.b sign),(7,.fl r3),(72,.fl (pQ2 r3)),(75,.fl (Zf r3 r3)),(94,.fl (pQ25 r3)),(96,.fl 13787419979223748497)] (fun w hM=>Qi (i:=4) ((hT.1).sat hM) rfl Kr) Kr Kr (ZW (sV (binOp .add 130 (.fl (pQ25 r3)) (.fl 13787419979223748497))) (some 97) (.fl (pQ30 r3)) [(3,.b sign),(7,.fl r3),(72,.fl (pQ2 r3)),(75,.fl (Zf r3 r3)),(97,.fl (pQ30 r3))] (fun w hM=>Xn (by have q0_:=((UV h8).imp (fun h=>(Xf h)) (fun h=>(Xf h)));(try have by_:=hm4.2.2);(try have bz_:=Yt hr2);(try have xk:=Yu hr3);exact faS)) Kr Kr (TL.run 29 [] [(3,.b sign),(72,.fl (pQ2 r3)),(75,.fl (Zf r3 r3)),(97,.fl (pQ30 r3)),(98,.fl r3)] rfl {} (ZW (sV (binOp .mul 130 (.fl (pQ30 r3)) (.fl r3))) (some 99) (.fl (pQ34 r3)) [(3,.b sign),(72,.fl (pQ2 r3)),(75,.fl (Zf r3 r3)),(99,.fl (pQ34 r3))] (fun w hM=>Y6 (by have q0_:=((UV h8).imp (fun h=>(Xf h)) (fun h=>(Xf h)));(try have by_:=hm4.2.2);(try have bz_:=Yt hr2);(try have xk:=Yu hr3);exact fmS)) Kr Kr (TL.run 31 [] [(3,.b sign),(72,.fl (pQ2 r3)),(75,.fl (Zf r3 r3)),(99,.fl (pQ34 r3)),(100,.pt 1 5)] rfl {} (ZW (sV (Instr.loadAt 130 (.pt 1 5))) (some 101) (.fl 4586165620538955083) [(3,.b sign),(72,.fl (pQ2 r3)),(75,.fl (Zf r3 r3)),(99,.fl (pQ34 r3)),(101,.fl 4586165620538955083)] (fun w hM=>Qi (i:=5) ((hT.1).sat hM) rfl Kr) Kr Kr (ZW (sV (binOp .add 130 (.fl (pQ34 r3)) (.fl 4586165620538955083))) (some 102) (.fl (pQ36 r3)) [(3,.b sign),(72,.fl (pQ2 r3)),(75,.fl (Zf r3 r3)),(102,.fl (pQ36 r3))] (fun w hM=>Xn (by have q0_:=((UV h8).imp (fun h=>(Xf h)) (fun h=>(Xf h)));(try have by_:=hm4.2.2);(try have bz_:=Yt hr2);(try have xk:=Yu hr3);exact faS)) Kr Kr (ZW (sV (binOp .mul 130 (.fl (Zf r3 r3)) (.fl (pQ36 r3)))) (some 103) (.fl (pQ38 r3)) [(3,.b sign),(72,.fl (pQ2 r3)),(103,.fl (pQ38 r3))] (fun w hM=>Y6 (by have q0_:=((UV h8).imp (fun h=>(Xf h)) (fun h=>(Xf h)));(try have by_:=hm4.2.2);(try have bz_:=Yt hr2);(try have xk:=Yu hr3);exact fmS)) Kr Kr (ZW (sV (binOp .add 130 (.fl (pQ2 r3)) (.fl (pQ38 r3)))) (some 104) (.fl (pQ39 r3)) [(3,.b sign),(104,.fl (pQ39 r3))] (fun w hM=>Xn (by have q0_:=((UV h8).imp (fun h=>(Xf h)) (fun h=>(Xf h)));(try have by_:=hm4.2.2);(try have bz_:=Yt hr2);(try have xk:=Yu hr3);exact faS)) Kr Kr (TL.run 36 [] [(3,.b sign),(5,.fl (pQ39 r3))] rfl {} (Z2 rfl (TE.cut (pQ39 r3) (by have q0_:=((UV h8).imp (fun h=>(Xf h)) (fun h=>(Xf h)));(try have by_:=hm4.2.2);(try have bz_:=Yt hr2);(try have xk:=Yu hr3);subst hr1 hr2 hr3;(try dsimp only);first|exact q_T hm5.2 hm4.2.1 (by first|assumption|rfl) (by first|assumption|rfl) (by assumption)|exact q_F hm5.2 hm4.2.1 (by first|assumption|rfl) (by first|assumption|rfl) (by assumption)) Kr (sb 0))))))))))))))))))))))))))))))))))))))
         ·exact TC.region (TL.run 3 [] [(3,.b sign),(7,.fl r3),(105,.fl r2),(106,.fl r2),(107,.fl r3)] rfl {} (ZW (sV (binOp .mul 130 (.fl r2) (.fl r3))) (some 108) (.fl (Zf r2 r3)) [(3,.b sign),(7,.fl r3),(105,.fl r2),(108,.fl (Zf r2 r3))] (fun w hM=>Y6 (by have q0_:=(Yh (Zx h8));have q1_:=(Yh (Z9 h8));(try have by_:=hm4.2.2);(try have bz_:=Yt hr2);(try have xk:=Yu hr3);exact fmS)) Kr Kr (TL.run 5 [] [(3,.b sign),(7,.fl r3),(105,.fl r2),(108,.fl (Zf r2 r3)),(109,.p0 2)] rfl {} (ZW (sV (Instr.loadAt 130 (.p0 2))) (some 110) (.fl 4460209587652500685) [(3,.b sign),(7,.fl r3),(105,.fl r2),(108,.fl (Zf r2 r3)),(110,.fl 4460209587652500685)] (fun w hM=>Qi (i:=0) ((hT.2).sat hM) rfl Kr) Kr Kr (TL.run 7 [] [(3,.b sign),(7,.fl r3),(105,.fl r2),(108,.fl (Zf r2 r3)),(110,.fl 4460209587652500685),(111,.fl r3)] rfl {} (ZW (sV (binOp .mul 130 (.fl 4460209587652500685) (.fl r3))) (some 112) (.fl (Zf 4460209587652500685 r3)) [(3,.b sign),(7,.fl r3),(105,.fl r2),(108,.fl (Zf r2 r3)),(112,.fl (Zf 4460209587652500685 r3))] (fun w hM=>Y6 (by have q0_:=(Yh (Zx h8));have q1_:=(Yh (Z9 h8));(try have by_:=hm4.2.2);(try have bz_:=Yt hr2);(try have xk:=Yu hr3);exact fmS)) Kr Kr (TL.run 9 [] [(3,.b sign),(7,.fl r3),(105,.fl r2),(108,.fl (Zf r2 r3)),(112,.fl (Zf 4460209587652500685 r3)),(113,.pt 2 1)] rfl {} (ZW (sV (Instr.loadAt 130 (.pt 2 1))) (some 114) (.fl 13716528389658582877) [(3,.b sign),(7,.fl r3),(105,.fl r2),(108,.fl (Zf r2 r3)),(112,.fl (Zf 4460209587652500685 r3)),(114,.fl 13716528389658582877)] (fun w hM=>Qi (i:=1) ((hT.2).sat hM) rfl Kr) Kr Kr (ZW (sV (binOp .add 130 (.fl (Zf 4460209587652500685 r3)) (.fl 13716528389658582877))) (some 115) (.fl (pQ4 r3)) [(3,.b sign),(7,.fl r3),(105,.fl r2),(108,.fl (Zf r2 r3)),(115,.fl (pQ4 r3))] (fun w hM=>Xn (by have q0_:=(Yh (Zx h8));have q1_:=(Yh (Z9 h8));(try have by_:=hm4.2.2);(try have bz_:=Yt hr2);(try have xk:=Yu hr3);exact faS)) Kr Kr (TL.run 12 [] [(3,.b sign),(7,.fl r3),(105,.fl r2),(108,.fl (Zf r2 r3)),(115,.fl (pQ4 r3)),(116,.fl r3)] rfl {} (ZW (sV (binOp .mul 130 (.fl (pQ4 r3)) (.fl r3))) (some 117) (.fl (pQ9 r3)) [(3,.b sign),(7,.fl r3),(105,.fl r2),(108,.fl (Zf r2 r3)),(117,.fl (pQ9 r3))] (fun w hM=>Y6 (by have q0_:=(Yh (Zx h8));have q1_:=(Yh (Z9 h8));(try have by_:=hm4.2.2);(try have bz_:=Yt hr2);(try have xk:=Yu hr3);exact fmS)) Kr Kr (TL.run 14 [] [(3,.b sign),(7,.fl r3),(105,.fl r2),(108,.fl (Zf r2 r3)),(117,.fl (pQ9 r3)),(118,.pt 2 2)] rfl {} (ZW (sV (Instr.loadAt 130 (.pt 2 2))) (some 119) (.fl 4523617212962785441) [(3,.b sign),(7,.fl r3),(105,.fl r2),(108,.fl (Zf r2 r3)),(117,.fl (pQ9 r3)),(119,.fl 4523617212962785441)] (fun w hM=>Qi (i:=2) ((hT.2).sat hM) rfl Kr) Kr Kr (ZW (sV (binOp .add 130 (.fl (pQ9 r3)) (.fl 4523617212962785441))) (some 120) (.fl (pQ13 r3)) [(3,.b sign),(7,.fl r3),(105,.fl r2),(108,.fl (Zf r2 r3)),(120,.fl (pQ13 r3))] (fun w hM=>Xn (by have q0_:=(Yh (Zx h8));have q1_:=(Yh (Z9 h8));(try have by_:=hm4.2.2);(try have bz_:=Yt hr2);(try have xk:=Yu hr3);exact faS)) Kr Kr (TL.run 17 [] [(3,.b sign),(7,.fl r3),(105,.fl r2),(108,.fl (Zf r2 r3)),(120,.fl (pQ13 r3)),(121,.fl r3)] rfl {} (ZW (sV (binOp .mul 130 (.fl (pQ13 r3)) (.fl r3))) (some 122) (.fl (pQ17 r3)) [(3,.b sign),(7,.fl r3),(105,.fl r2),(108,.fl (Zf r2 r3)),(122,.fl (pQ17 r3))] (fun w hM=>Y6 (by have q0_:=(Yh (Zx h8));have q1_:=(Yh (Z9 h8));(try have by_:=hm4.2.2);(try have bz_:=Yt hr2);(try have xk:=Yu hr3);exact fmS)) Kr Kr (TL.run 19 [] [(3,.b sign),(7,.fl r3),(105,.fl r2),(108,.fl (Zf r2 r3)),(122,.fl (pQ17 r3)),(123,.pt 2 3)] rfl {} (ZW (sV (Instr.loadAt 130 (.pt 2 3))) (some 124) (.fl 13774824197404483331) [(3,.b sign),(7,.fl r3),(105,.fl r2),(108,.fl (Zf r2 r3)),(122,.fl (pQ17 r3)),(124,.fl 13774824197404483331)] (fun w hM=>Qi (i:=3) ((hT.2).sat hM) rfl Kr) Kr Kr (ZW (sV (binOp .add 130 (.fl (pQ17 r3)) (.fl 13774824197404483331))) (some 125) (.fl (pQ22 r3)) [(3,.b sign),(7,.fl r3),(105,.fl r2),(108,.fl (Zf r2 r3)),(125,.fl (pQ22 r3))] (fun w hM=>Xn (by have q0_:=(Yh (Zx h8));have q1_:=(Yh (Z9 h8));(try have by_:=hm4.2.2);(try have bz_:=Yt hr2);(try have xk:=Yu hr3);exact faS)) Kr Kr (TL.run 22 [] [(3,.b sign),(7,.fl r3),(105,.fl r2),(108,.fl (Zf r2 r3)),(125,.fl (pQ22 r3)),(126,.fl r3)] rfl {} (ZW (sV (binOp .mul 130 (.fl (pQ22 r3)) (.fl r3))) (some 127) (.fl (pQ26 r3)) [(3,.b sign),(7,.fl r3),(105,.fl r2),(108,.fl (Zf r2 r3)),(127,.fl (pQ26 r3))] (fun w hM=>Y6 (by have q0_:=(Yh (Zx h8));have q1_:=(Yh (Z9 h8));(try have by_:=hm4.2.2);(try have bz_:=Yt hr2);(try have xk:=Yu hr3);exact fmS)) Kr Kr (TL.run 24 [] [(3,.b sign),(7,.fl r3),(105,.fl r2),(108,.fl (Zf r2 r3)),(127,.fl (pQ26 r3)),(128,.pt 2 4)] rfl {} (ZW (sV (Instr.loadAt 130 (.pt 2 4))) (some 129) (.fl 4575957461383575504) [(3,.b sign),(7,.fl r3),(105,.fl r2),(108,.fl (Zf r2 r3)),(127,.fl (pQ26 r3)),(129,.fl 4575957461383575504)] (fun w hM=>Qi (i:=4) ((hT.2).sat hM) rfl Kr) Kr Kr (ZW (sV (binOp .add 130 (.fl (pQ26 r3)) (.fl 4575957461383575504))) (some 130) (.fl (pQ29 r3)) [(3,.b sign),(7,.fl r3),(105,.fl r2),(108,.fl (Zf r2 r3)),(130,.fl (pQ29 r3))] (fun w hM=>Xn (by have q0_:=(Yh (Zx h8));have q1_:=(Yh (Z9 h8));(try have by_:=hm4.2.2);(try have bz_:=Yt hr2);(try have xk:=Yu hr3);exact faS)) Kr Kr (TL.run 27 [] [(3,.b sign),(105,.fl r2),(108,.fl (Zf r2 r3)),(130,.fl (pQ29 r3)),(131,.fl r3)] rfl {} (ZW (sV (binOp .mul 130 (.fl (pQ29 r3)) (.fl r3))) (some 132) (.fl (pQ33 r3)) [(3,.b sign),(105,.fl r2),(108,.fl (Zf r2 r3)),(132,.fl (pQ33 r3))] (fun w hM=>Y6 (by have q0_:=(Yh (Zx h8));have q1_:=(Yh (Z9 h8));(try have by_:=hm4.2.2);(try have bz_:=Yt hr2);(try have xk:=Yu hr3);exact fmS)) Kr Kr (TL.run 29 [] [(3,.b sign),(105,.fl r2),(108,.fl (Zf r2 r3)),(132,.fl (pQ33 r3)),(133,.pt 2 5)] rfl {} (ZW (sV (Instr.loadAt 130 (.pt 2 5))) (some 134) (.fl 13818544856648471880) [(3,.b sign),(105,.fl r2),(108,.fl (Zf r2 r3)),(132,.fl (pQ33 r3)),(134,.fl 13818544856648471880)] (fun w hM=>Qi (i:=5) ((hT.2).sat hM) rfl Kr) Kr Kr (ZW (sV (binOp .add 130 (.fl (pQ33 r3)) (.fl 13818544856648471880))) (some 135) (.fl (pQ37 r3)) [(3,.b sign),(105,.fl r2),(108,.fl (Zf r2 r3)),(135,.fl (pQ37 r3))] (fun w hM=>Xn (by have q0_:=(Yh (Zx h8));have q1_:=(Yh (Z9 h8));(try have by_:=hm4.2.2);(try have bz_:=Yt hr2);(try have xk:=Yu hr3);exact faS)) Kr Kr (ZW (sV (binOp .mul 130 (.fl (Zf r2 r3)) (.fl (pQ37 r3)))) (some 136) (.fl (Zf (Zf r2 r3) (pQ37 r3))) [(3,.b sign),(105,.fl r2),(136,.fl (Zf (Zf r2 r3) (pQ37 r3)))] (fun w hM=>Y6 (by have q0_:=(Yh (Zx h8));have q1_:=(Yh (Z9 h8));(try have by_:=hm4.2.2);(try have bz_:=Yt hr2);(try have xk:=Yu hr3);exact fmS)) Kr Kr (ZW (sV (binOp .add 130 (.fl r2) (.fl (Zf (Zf r2 r3) (pQ37 r3))))) (some 137) (.fl (Zn r2 (Zf (Zf r2 r3) (pQ37 r3)))) [(3,.b sign),(137,.fl (Zn r2 (Zf (Zf r2 r3) (pQ37 r3))))] (fun w hM=>Xn (by have q0_:=(Yh (Zx h8));have q1_:=(Yh (Z9 h8));(try have by_:=hm4.2.2);(try have bz_:=Yt hr2);(try have xk:=Yu hr3);exact faS)) Kr Kr (TL.run 34 [] [(3,.b sign),(5,.fl (Zn r2 (Zf (Zf r2 r3) (pQ37 r3))))] rfl {} (Z2 rfl (TE.cut (Zn r2 (Zf (Zf r2 r3) (pQ37 r3))) (by have q0_:=(Yh (Zx h8));have q1_:=(Yh (Z9 h8));(try have by_:=hm4.2.2);(try have bz_:=Yt hr2);(try have xk:=Yu hr3);subst hr1 hr2 hr3;(try dsimp only);first|exact q_T hm5.2 hm4.2.1 (by first|assumption|rfl) (by first|assumption|rfl) (by assumption)|exact q_F hm5.2 hm4.2.1 (by first|assumption|rfl) (by first|assumption|rfl) (by assumption)) Kr (sb 0)))))))))))))))))))))))))))))))))))
        ·rintro y_2 hm6
         refine Z4 (TC.seq (Ze (TL.run 1 [] [(5,.fl y_2),(138,.b sign)] rfl {} (Zb rfl (TC.cond sign rfl Kr (fun h9=>?_) (fun h9=>?_))))))
         ·exact TC.region (TL.run 3 [] [(5,.fl (We y_2))] rfl {} (Zv (TL.run 2 [] [(2,.fl (We y_2))] rfl {} (Zb rfl (TC.ret (ZN (.inl rfl) (We y_2) [] (.fl (We y_2)) {} rfl (fun _ hM=>(hM.sub (sb 0)).fact (by (try have by_:=hm4.2.2);(try have bz_:=Yt hr2);(try have xk:=Yu hr3);subst hr1 hr2 hr3;(try dsimp only);first|exact I5 h1|exact I6 h1 hm5.1 (by assumption) hm6|exact I7 h1 hm5.1 (by assumption) hm6))))))))
         ·exact ZI (TL.run 2 [] [(2,.fl y_2)] rfl {} (Zb rfl (TC.ret (ZN (.inl rfl) y_2 [] (.fl y_2) {} rfl (fun _ hM=>(hM.sub (sb 0)).fact (by (try have by_:=hm4.2.2);(try have bz_:=Yt hr2);(try have xk:=Yu hr3);subst hr1 hr2 hr3;(try dsimp only);first|exact I5 h1|exact I6 h1 hm5.1 (by assumption) hm6|exact I7 h1 hm5.1 (by assumption) hm6))))))
def VC (x:Nat):Nat :=
 let r1:=(H6 x)
 r1
theorem Rr (x:Nat) (w:World) (hx:Po 14 x) (hl:x<18446744073709551616) (hT:W4 w):Calls Tryz.prog 140 #[.fl x] w (Ret w (.fl (VC x))):=by
 refine Zo (vs:=[.fl x]) (w:=w) Tryz.func140 rfl Tryz.ntmps140 rfl (Ze (Zc 1 [] [(2,.fl 0)] {} (Zz (Jr rfl Kr (ZI (Zc 1 [] [(5,.fl x)] {} (Xx (Γ:=Nat) (fun g=>.fl g) (fun g=>[.inr (XG (g=H6 x))]) [] [] (some 6) (fun g=>[(6,.fl g)]) (fun w hM=>Rq x w hM.pass hx hl (hT.sat hM)) Kr (fun g=>Kr) ?_)))))))
 rintro r1
 refine YS [.inr (XG (r1=H6 x))] (fun _ hM=>hM) (Y2 (fun w hM=>hM.fact_at 0 rfl) (fun pf=>YK [] (.cons _ (aA _)) ?_))
 have hr1:(H6 x)=r1:=(pf).symm
 exact Zc 3 [] [(2,.fl r1)] {} (Zb rfl (TC.ret (TE.ret [] (.fl r1) {} (by unfold VC;refine eS (fun z=>(.fl z:Value)) ?_;subst hr1;exact rfl))))
def J5 (x:Nat):Nat :=
 cond (decide ((Z6 .u64 ((x:Int).fdiv (2 ^ 52)) 2047)<1023)) (
  cond ((Z6 .u64 ((x:Int).fdiv (2 ^ 52)) 2047)==1022) (
   (kor .u64 (Z6 .u64 (x:Int) 9223372036854775808) 4607182418800017408).toNat) (
   (Z6 .u64 (x:Int) 9223372036854775808).toNat)) (
  cond (decide ((Z6 .u64 ((x:Int).fdiv (2 ^ 52)) 2047)<1075)) (
   let r1:=YB .u64 (Z0 ((x:Int)+((2251799813685248:Int).fdiv (2 ^ (min (Z0 ((Z6 .u64 ((x:Int).fdiv (2 ^ 52)) 2047)-1023)).toNat 64))))) ((4503599627370495:Int).fdiv (2 ^ (min (Z0 ((Z6 .u64 ((x:Int).fdiv (2 ^ 52)) 2047)-1023)).toNat 64)))
   r1.toNat) (
   (x:Int).toNat))
theorem Nz (x:Nat) (w:World):Calls Tryz.prog 139 #[.fl x] w (Ret w (.fl (J5 x))):=by
 refine Zo (vs:=[.fl x]) (w:=w) Tryz.func139 rfl Tryz.ntmps139 rfl (Ze (Zc 1 [] [(2,.fl 0)] {} (Zv (Zc 1 [] [(5,.fl x)] {} (TL.v (callFunc 63 #[.fl x]) 6 (.int .u64 (x:Int)) (fun w hM=>Kx Tryz.func63 Kr Kr Kr Kr) {} (Zc 3 [] [(3,.int .u64 (x:Int))] {} (Zv (Zc 4 [] [(4,.int .u64 (Z6 .u64 ((x:Int).fdiv (2 ^ 52)) 2047))] {} (Zz (Ze (Zc 2 [] [(11,.b (decide ((Z6 .u64 ((x:Int).fdiv (2 ^ 52)) 2047)<1023)))] {} (Zb rfl (TC.cond (decide ((Z6 .u64 ((x:Int).fdiv (2 ^ 52)) 2047)<1023)) rfl Kr (fun h1=>?_) (fun h1=>?_))))))))))))))
 ·refine Ze (Zc 3 [] [(3,.int .u64 (Z6 .u64 (x:Int) 9223372036854775808))] {} (Zv (Zc 2 [] [(15,.b ((Z6 .u64 ((x:Int).fdiv (2 ^ 52)) 2047)==1022))] {} (Zb rfl (TC.cond ((Z6 .u64 ((x:Int).fdiv (2 ^ 52)) 2047)==1022) rfl Kr (fun h2=>?_) (fun h2=>?_))))))
  ·exact TC.region (Zc 3 [] [(3,.int .u64 (kor .u64 (Z6 .u64 (x:Int) 9223372036854775808) 4607182418800017408))] {} (Zv (Zc 1 [] [(30,.int .u64 (kor .u64 (Z6 .u64 (x:Int) 9223372036854775808) 4607182418800017408))] {} (TL.v (callFunc 143 #[.int .u64 (kor .u64 (Z6 .u64 (x:Int) 9223372036854775808) 4607182418800017408)]) 31 (.fl ((kor .u64 (Z6 .u64 (x:Int) 9223372036854775808) 4607182418800017408).toNat)) (fun w hM=>XP Tryz.func143 Kr Kr Kr Kr) {} (Zc 3 [] [(2,.fl ((kor .u64 (Z6 .u64 (x:Int) 9223372036854775808) 4607182418800017408).toNat))] {} (Zb rfl (TC.ret (TE.ret [] (.fl ((kor .u64 (Z6 .u64 (x:Int) 9223372036854775808) 4607182418800017408).toNat)) {} (by unfold J5;refine eS (fun z=>(.fl z:Value)) ?_;exact Zk h1 (Zk h2 (rfl)))))))))))
  ·exact ZI (Zc 1 [] [(30,.int .u64 (Z6 .u64 (x:Int) 9223372036854775808))] {} (TL.v (callFunc 143 #[.int .u64 (Z6 .u64 (x:Int) 9223372036854775808)]) 31 (.fl ((Z6 .u64 (x:Int) 9223372036854775808).toNat)) (fun w hM=>XP Tryz.func143 Kr Kr Kr Kr) {} (Zc 3 [] [(2,.fl ((Z6 .u64 (x:Int) 9223372036854775808).toNat))] {} (Zb rfl (TC.ret (TE.ret [] (.fl ((Z6 .u64 (x:Int) 9223372036854775808).toNat)) {} (by unfold J5;refine eS (fun z=>(.fl z:Value)) ?_;exact Zk h1 (Zd h2 (rfl)))))))))
 ·refine Ze (Zc 2 [] [(19,.b (decide ((Z6 .u64 ((x:Int).fdiv (2 ^ 52)) 2047)<1075)))] {} (Zb rfl (TC.cond (decide ((Z6 .u64 ((x:Int).fdiv (2 ^ 52)) 2047)<1075)) rfl Kr (fun h3=>?_) (fun h3=>?_))))
  ·refine Ze (Zc 3 [] [(4,.int .u64 (Z0 ((Z6 .u64 ((x:Int).fdiv (2 ^ 52)) 2047)-1023)))] {} (Zv (Zc 2 [] [(22,.int .u64 (x:Int)),(23,.int .u64 (Z0 ((Z6 .u64 ((x:Int).fdiv (2 ^ 52)) 2047)-1023)))] {} (TL.v (sV (binOp .shr 82 (.int .u64 2251799813685248) (.int .u64 (Z0 ((Z6 .u64 ((x:Int).fdiv (2 ^ 52)) 2047)-1023))))) 24 (.int .u64 ((2251799813685248:Int).fdiv (2 ^ (min (Z0 ((Z6 .u64 ((x:Int).fdiv (2 ^ 52)) 2047)-1023)).toNat 64)))) (fun w hM=>GN (FY _)) {} (Zc 5 [] [(3,.int .u64 (Z0 ((x:Int)+((2251799813685248:Int).fdiv (2 ^ (min (Z0 ((Z6 .u64 ((x:Int).fdiv (2 ^ 52)) 2047)-1023)).toNat 64))))))] {} (Zb rfl (TC.region (Zc 2 [] [(26,.int .u64 (Z0 ((x:Int)+((2251799813685248:Int).fdiv (2 ^ (min (Z0 ((Z6 .u64 ((x:Int).fdiv (2 ^ 52)) 2047)-1023)).toNat 64)))))),(27,.int .u64 (Z0 ((Z6 .u64 ((x:Int).fdiv (2 ^ 52)) 2047)-1023)))] {} (TL.v (sV (binOp .shr 82 (.int .u64 4503599627370495) (.int .u64 (Z0 ((Z6 .u64 ((x:Int).fdiv (2 ^ 52)) 2047)-1023))))) 28 (.int .u64 ((4503599627370495:Int).fdiv (2 ^ (min (Z0 ((Z6 .u64 ((x:Int).fdiv (2 ^ 52)) 2047)-1023)).toNat 64)))) (fun w hM=>GN (FY _)) {} (Zc 5 [] [(3,.int .u64 (YB .u64 (Z0 ((x:Int)+((2251799813685248:Int).fdiv (2 ^ (min (Z0 ((Z6 .u64 ((x:Int).fdiv (2 ^ 52)) 2047)-1023)).toNat 64))))) ((4503599627370495:Int).fdiv (2 ^ (min (Z0 ((Z6 .u64 ((x:Int).fdiv (2 ^ 52)) 2047)-1023)).toNat 64)))))] {} ?_))))))))))
   generalize hr1:YB .u64 (Z0 ((x:Int)+((2251799813685248:Int).fdiv (2 ^ (min (Z0 ((Z6 .u64 ((x:Int).fdiv (2 ^ 52)) 2047)-1023)).toNat 64))))) ((4503599627370495:Int).fdiv (2 ^ (min (Z0 ((Z6 .u64 ((x:Int).fdiv (2 ^ 52)) 2047)-1023)).toNat 64)))=r1
   exact Zv (Zc 1 [] [(30,.int .u64 r1)] {} (TL.v (callFunc 143 #[.int .u64 r1]) 31 (.fl r1.toNat) (fun w hM=>XP Tryz.func143 Kr Kr Kr Kr) {} (Zc 3 [] [(2,.fl r1.toNat)] {} (Zb rfl (TC.ret (TE.ret [] (.fl r1.toNat) {} (by unfold J5;refine eS (fun z=>(.fl z:Value)) ?_;subst hr1;exact Zd h1 (Zk h3 (rfl)))))))))
  ·exact ZI (Zc 1 [] [(30,.int .u64 (x:Int))] {} (TL.v (callFunc 143 #[.int .u64 (x:Int)]) 31 (.fl ((x:Int).toNat)) (fun w hM=>XP Tryz.func143 Kr Kr Kr Kr) {} (Zc 3 [] [(2,.fl ((x:Int).toNat))] {} (Zb rfl (TC.ret (TE.ret [] (.fl ((x:Int).toNat)) {} (by unfold J5;refine eS (fun z=>(.fl z:Value)) ?_;exact Zd h1 (Zd h3 (rfl)))))))))
def Yj (h_:Int):Int :=
 (w64 ((h_.tmod 4096)+4096)).tmod 4096
theorem K7 (h_:Int) (w:World):Calls Tryz.prog 60 #[.int .i64 h_] w (Ret w (.int .i64 (Yj h_))):=by
 exact Zo (vs:=[.i h_]) (w:=w) Tryz.func60 rfl Tryz.ntmps60 rfl (Ze (Zc 1 [] [(2,.i 0)] {} (Zv (Zc 5 [] [(2,.i ((w64 ((h_.tmod 4096)+4096)).tmod 4096))] {} (Zb rfl (TC.ret (TE.ret [] (.i ((w64 ((h_.tmod 4096)+4096)).tmod 4096)) {} (by unfold Yj;refine eS (fun z=>(.i z:Value)) ?_;exact rfl))))))))
end Go.Sky
end
