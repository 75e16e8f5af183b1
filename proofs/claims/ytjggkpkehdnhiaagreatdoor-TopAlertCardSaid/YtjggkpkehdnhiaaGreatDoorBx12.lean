/- Lemmas toward the given statement (part 12 of 20): Flo Flob Ga SinF. Each theorem states its own conditions; nothing is assumed beyond them. -/
import Derived.Test.YtjggkpkehdnhiaaGreatDoorBx11
import Derived.Laws.FloatArith
import Derived.Test.YtjggkpkehdnhiaaGreatDoorBx02
section
namespace Go.Eng
def Zh (x y:Nat):Nat:=(FloatKind.f64.format.add x y).getD 0
def Ym (x y:Nat):Nat:=(FloatKind.f64.format.sub x y).getD 0
def fdiv (x y:Nat):Nat:=(FloatKind.f64.format.div x y).getD 0
def U5 (x:Nat):Nat:=x ^^^ 9223372036854775808
def fle (x y:Nat):Bool:=fcm x y==some .lt||fcm x y==some .eq
def fge (x y:Nat):Bool:=fcm x y==some .gt||fcm x y==some .eq
def f2i (x:Nat):Int:=((FloatKind.f64.decode x).toInt .zero).getD 0
def VG (x:Nat):Nat:=FloatKind.f64.encode ((FloatKind.f64.decode x).integral .down)
section
variable {P:Program} {w:World} {t:TypeId} {x y:Nat}
theorem Y9 (h:(FloatKind.f64.format.add x y).isSome=true):(sV (binOp .add t (.float .f64 x) (.float .f64 y))).run P w=.ok (.value (.float .f64 (Zh x y))) w:=by
 obtain⟨r,hr⟩:=Option.isSome_iff_exists.1 h
 rw[show Zh x y=r by unfold Zh;rw[hr];rfl]
 exact J8 (run_float_arith w .add t .f64 x y r hr)
theorem KR (h:(FloatKind.f64.format.sub x y).isSome=true):(sV (binOp .sub t (.float .f64 x) (.float .f64 y))).run P w=.ok (.value (.float .f64 (Ym x y))) w:=by
 obtain⟨r,hr⟩:=Option.isSome_iff_exists.1 h
 rw[show Ym x y=r by unfold Ym;rw[hr];rfl]
 exact J8 (run_float_arith w .sub t .f64 x y r hr)
theorem V0 (h:(FloatKind.f64.format.div x y).isSome=true):(sV (binOp .quo t (.float .f64 x) (.float .f64 y))).run P w=.ok (.value (.float .f64 (fdiv x y))) w:=by
 obtain⟨r,hr⟩:=Option.isSome_iff_exists.1 h
 rw[show fdiv x y=r by unfold fdiv;rw[hr];rfl]
 exact J8 (run_float_arith w .quo t .f64 x y r hr)
theorem D5 {src dst:TypeId} {k:IntKind} (hs:(P.underlying src).isSome=true) (hd:P.underlying dst=some (.int k)) (h:floatToIntVal .f64 x k=some (f2i x)) :
  (sV (convert src dst (.float .f64 x))).run P w=.ok (.value (.int k (f2i x))) w:=J8 (run_convert_float_int w src dst .f64 k x _ hs hd h)
end
abbrev DD:=FloatKind.f64.format
theorem WG:DD.signWeight=9223372036854775808:=rfl
theorem TF:DD.binade=4503599627370496:=rfl
theorem TI:DD.infRung=9218868437227405312:=rfl
theorem Nv:DD.leastPlace=-1074:=rfl
theorem LM:DD.fractionBits=52:=rfl
theorem Vf {m k:Nat} (h1:2 ^ k≤m) (h2:m<2 ^ (k+1)):m.log2=k:=by
 have h0:m≠0:=by have:=Nat.two_pow_pos k;omega
 have a:=(Nat.le_log2 h0).2 h1
 have b:=(Nat.log2_lt h0).2 h2
 omega
theorem GW {s:Bool} {r:Nat} (h:r<9218868437227405312):DD.read (DD.word s r)=if r<4503599627370496 then .number s r (-1074) else .number s (4503599627370496+r%4503599627370496) (-1074+(r/4503599627370496-1:Nat)):=by
 have hm:DD.word s r%9223372036854775808=r:=by unfold Ieee.Format.word;rw[WG];cases s <;> simp <;> omega
 have hd:(DD.word s r/9223372036854775808%2==1)=s:=by unfold Ieee.Format.word;rw[WG];cases s <;> simp <;> omega
 unfold Ieee.Format.read
 simp only[WG,TF,TI,Nv,hm,hd]
 by_cases h1:r<4503599627370496
 ·rw[if_pos h1,if_pos h1]
 ·rw[if_neg h1,if_neg h1,if_pos h]
theorem MF (way:Ieee.Toward) (neg:Bool) (n drop:Nat):n/2 ^ (min drop (n.log2+2))≤way.cut neg n drop∧way.cut neg n drop≤n/2 ^ (min drop (n.log2+2))+1:=by
 unfold Ieee.Toward.cut
 simp only[Nat.one_shiftLeft]
 refine⟨Nat.le_add_right _ _,Nat.add_le_add_left (Bool.toNat_le _) _⟩
theorem Nw (neg:Bool) (n:Nat):Ieee.Toward.even.cut neg n 0=n:=by
 unfold Ieee.Toward.cut
 rw[Nat.zero_min]
 simp[Nat.mod_one]
def Lw (m:Nat) (p e:Int):Prop:=m=0∨(m.log2:Int)+p<e∨(m=2 ^ m.log2∧(m.log2:Int)+p=e)
theorem RF (neg:Bool) {n drop:Nat} (h:n%2 ^ (min drop (n.log2+2))=0):Ieee.Toward.even.cut neg n drop=n/2 ^ (min drop (n.log2+2)):=by
 unfold Ieee.Toward.cut
 have hp:=Nat.two_pow_pos (min drop (n.log2+2))
 simp only[Nat.one_shiftLeft,h]
 have h1:decide (2 ^ (min drop (n.log2+2))<2*0)=false:=decide_eq_false (by omega)
 have h2:(2 ^ (min drop (n.log2+2))==2*0)=false:=by
  generalize 2 ^ (min drop (n.log2+2))=q at hp
  cases q with
  | zero=>omega
  | succ q=>rfl
 rw[h1,h2];rfl
theorem QE (s:Bool) {m:Nat} {p e:Int} (h:Lw m p e) (h0:0≤e) (h1:e≤1000) :
  ∃ m' p',DD.read (DD.nearest s m p)=.number s m' p'∧Lw m' p' e∧(m≠0→0≤(m.log2:Int)+p→m'≠0∧0≤(m'.log2:Int)+p'):=by
 unfold Lw at h ⊢
 by_cases hm:m=0
 ·refine⟨0,-1074,?_,.inl rfl,fun h=>absurd hm h⟩
  unfold Ieee.Format.nearest
  rw[if_pos hm,GW (by decide)]
  rfl
 have h:=h.resolve_left hm
 have l1:=Nat.log2_self_le hm
 have l2:m<2 ^ (m.log2+1):=Nat.lt_log2_self
 unfold Ieee.Format.nearest
 rw[if_neg hm]
 simp only[LM,Nv,TF,TI]
 generalize hL:m.log2=L at *
 have hc:((52:Nat):Int)=52:=rfl
 rw[hc]
 by_cases hA:-1074≤p+(L:Int)-52
 ·
  rw[show max (p+(L:Int)-52) (-1074)=p+L-52 by omega]
  have hk:(4503599627370496≤Ieee.Toward.even.cut s (m <<< (p-(p+(L:Int)-52)).toNat) (p+(L:Int)-52-p).toNat∧Ieee.Toward.even.cut s (m <<< (p-(p+(L:Int)-52)).toNat) (p+(L:Int)-52-p).toNat≤9007199254740992) ∧
    (m=2 ^ L→Ieee.Toward.even.cut s (m <<< (p-(p+(L:Int)-52)).toNat) (p+(L:Int)-52-p).toNat=4503599627370496):=by
   by_cases hl:L≤52
   ·rw[show (p-(p+(L:Int)-52)).toNat=52-L by omega,show (p+(L:Int)-52-p).toNat=0 by omega,Nw,Nat.shiftLeft_eq]
    have e1:(2:Nat) ^ L*2 ^ (52-L)=4503599627370496:=by rw[← Nat.pow_add,show L+(52-L)=52 by omega]
    have e2:(2:Nat) ^ (L+1)*2 ^ (52-L)=9007199254740992:=by rw[← Nat.pow_add,show L+1+(52-L)=53 by omega]
    have a1:=Nat.mul_le_mul_right (2 ^ (52-L)) l1
    have a2:=Nat.mul_lt_mul_of_pos_right l2 (Nat.two_pow_pos (52-L))
    exact⟨by omega,fun h=>by rw[h];exact e1⟩
   ·rw[show (p-(p+(L:Int)-52)).toNat=0 by omega,show (p+(L:Int)-52-p).toNat=L-52 by omega,Nat.shiftLeft_zero]
    have c:=MF .even s m (L-52)
    have x:=RF s (n:=m) (drop:=L-52)
    rw[hL,Nat.min_eq_left (by omega)] at c x
    have e1:(2:Nat) ^ L=4503599627370496*2 ^ (L-52):=by rw[show (4503599627370496:Nat)=2 ^ 52 from rfl,← Nat.pow_add];congr 1;omega
    have e2:(2:Nat) ^ (L+1)=9007199254740992*2 ^ (L-52):=by rw[show (9007199254740992:Nat)=2 ^ 53 from rfl,← Nat.pow_add];congr 1;omega
    have p1:=Nat.two_pow_pos (L-52)
    have a1:4503599627370496≤m/2 ^ (L-52):=(Nat.le_div_iff_mul_le p1).2 (by omega)
    have a2:m/2 ^ (L-52)<9007199254740992:=(Nat.div_lt_iff_lt_mul p1).2 (by omega)
    refine⟨by omega,fun h=>?_⟩
    rw[x (by rw[h,e1];exact Nat.mul_mod_left _ _)]
    rw[h,e1];exact Nat.mul_div_cancel _ p1
  generalize Ieee.Toward.even.cut s (m <<< (p-(p+(L:Int)-52)).toNat) (p+(L:Int)-52-p).toNat=k at hk
  obtain⟨E,hE⟩:∃ E:Nat,(p+(L:Int)-52 - -1074).toNat=E:=⟨_,rfl⟩
  have hE':(E:Int)=p+L+1022:=by omega
  have hLe:p+(L:Int)≤e:=by omega
  rw[hE,Nat.min_eq_left (by omega),GW (by omega),if_neg (by omega)]
  have lg:∀ F,F<4503599627370496→(4503599627370496+F).log2=52:=fun F hF=>Vf (by omega) (by omega)
  by_cases hk2:k=9007199254740992
  ·have hn:¬ m=2 ^ L:=fun h=>by have:=hk.2 h;omega
   have e1:(E*4503599627370496+k)/4503599627370496=E+2:=by omega
   have e2:(E*4503599627370496+k)%4503599627370496=0:=by omega
   rw[e1,e2]
   refine⟨_,_,rfl,.inr ?_,fun _ _=>⟨by omega,?_⟩⟩ <;> rw[lg 0 (by decide)]
   ·have:(4503599627370496+0:Nat)=2 ^ 52:=rfl
    rcases h with h|h
    ·by_cases h5:p+(L:Int)+1=e
     ·exact .inr ⟨this,by omega⟩
     ·exact .inl (by omega)
    ·exact absurd h.1 hn
   ·omega
  ·have e1:(E*4503599627370496+k)/4503599627370496=E+1:=by omega
   have e2:(E*4503599627370496+k)%4503599627370496=k-4503599627370496:=by omega
   rw[e1,e2]
   refine⟨_,_,rfl,.inr ?_,fun _ _=>⟨by omega,?_⟩⟩ <;> rw[lg _ (by omega)]
   ·rcases h with h|h
    ·exact .inl (by omega)
    ·have h6:=hk.2 h.1
     subst h6
     exact .inr ⟨rfl,by omega⟩
   ·omega
 ·
  have h:(L:Int)+p<e:=by omega
  rw[show max (p+(L:Int)-52) (-1074)=-1074 by omega]
  have hk:Ieee.Toward.even.cut s (m <<< (p - -1074).toNat) (-1074-p).toNat≤4503599627370496:=by
   by_cases hp:-1074≤p
   ·rw[show (-1074-p).toNat=0 by omega,Nw,Nat.shiftLeft_eq]
    obtain⟨q,hq⟩:∃ q:Nat,(p - -1074).toNat=q:=⟨_,rfl⟩
    rw[hq]
    have a2:=Nat.mul_lt_mul_of_pos_right l2 (Nat.two_pow_pos q)
    rw[← Nat.pow_add] at a2
    have a3:2 ^ (L+1+q)≤2 ^ 52:=Nat.pow_le_pow_right (by decide) (by omega)
    have:(2:Nat) ^ 52=4503599627370496:=rfl
    omega
   ·rw[show (p - -1074).toNat=0 by omega,Nat.shiftLeft_zero]
    have c:=MF .even s m (-1074-p).toNat
    rw[hL] at c
    obtain⟨q,hq⟩:∃ q:Nat,(-1074-p).toNat=q:=⟨_,rfl⟩
    rw[hq] at c ⊢
    by_cases hd:q≤L+2
    ·rw[Nat.min_eq_left hd] at c
     have a1:m/2 ^ q<4503599627370496:=by
      rw[Nat.div_lt_iff_lt_mul (Nat.two_pow_pos q)]
      have a3:2 ^ (L+1)≤2 ^ (52+q):=Nat.pow_le_pow_right (by decide) (by omega)
      rw[Nat.pow_add 2 52 q,show (2:Nat) ^ 52=4503599627370496 from rfl] at a3
      omega
     omega
    ·rw[Nat.min_eq_right (by omega)] at c
     have a1:m/2 ^ (L+2)=0:=Nat.div_eq_of_lt (Nat.lt_of_lt_of_le l2 (Nat.pow_le_pow_right (by decide) (by omega)))
     omega
  generalize Ieee.Toward.even.cut s (m <<< (p - -1074).toNat) (-1074-p).toNat=k at hk
  rw[show ((-1074:Int) - -1074).toNat=0 by decide,Nat.zero_mul,Nat.zero_add,Nat.min_eq_left (by omega),GW (by omega)]
  by_cases hk2:k<4503599627370496
  ·rw[if_pos hk2]
   refine⟨_,_,rfl,?_,fun _ _=>by omega⟩
   by_cases hk0:k=0
   ·exact .inl hk0
   ·have:=(Nat.log2_lt hk0).2 (show k<2 ^ 52 by omega)
    exact .inr (.inl (by omega))
  ·rw[if_neg hk2,show k=4503599627370496 by omega]
   refine⟨_,_,rfl,.inr (.inl ?_),fun _ _=>by omega⟩
   rw[show Nat.log2 (4503599627370496+4503599627370496%4503599627370496)=52 from Vf (by decide) (by decide)]
   have:(4503599627370496/4503599627370496-1:Nat)=0:=rfl
   omega
theorem Lw.mono {m:Nat} {p e f:Int} (h:Lw m p e) (hf:e≤f):Lw m p f:=by
 unfold Lw at *
 by_cases h2:e=f
 ·subst h2;exact h
 ·omega
class Bd (e:outParam Nat) (x:Nat):Prop where
 bd:e≤1000→∃ s m p,DD.read x=.number s m p∧Lw m p e
class Po (e:outParam Nat) (x:Nat):Prop where
 po:e≤1000→∃ m p,DD.read x=.number false m p∧Lw m p e
class Ge (e:outParam Nat) (x:Nat):Prop where
 ge:e≤1000→∃ s m p,DD.read x=.number s m p∧Lw m p e∧m≠0∧0≤(m.log2:Int)+p
class Pg (e:outParam Nat) (x:Nat):Prop where
 pg:e≤1000→∃ m p,DD.read x=.number false m p∧Lw m p e∧m≠0∧0≤(m.log2:Int)+p
section
variable {e f x y:Nat}
instance Ik [h:Po e x]:Bd e x:=⟨fun he=>by obtain⟨m,p,h1,h2⟩:=h.po he;exact⟨_,_,_,h1,h2⟩⟩
instance Il [h:Pg e x]:Po e x:=⟨fun he=>by obtain⟨m,p,h1,h2,_⟩:=h.pg he;exact⟨_,_,h1,h2⟩⟩
instance Im [h:Pg e x]:Ge e x:=⟨fun he=>by obtain⟨m,p,h1,h2⟩:=h.pg he;exact⟨_,_,_,h1,h2⟩⟩
instance Io [h:Ge e x]:Bd e x:=⟨fun he=>by obtain⟨s,m,p,h1,h2,_⟩:=h.ge he;exact⟨_,_,_,h1,h2⟩⟩
theorem P3 {m n:Nat} (hm:m≠0) (hn:n≠0):(m*n).log2≤m.log2+n.log2+1:=by
 have a:m<2 ^ (m.log2+1):=Nat.lt_log2_self
 have b:n<2 ^ (n.log2+1):=Nat.lt_log2_self
 have c:=Nat.mul_lt_mul'' a b
 rw[← Nat.pow_add] at c
 have:=(Nat.log2_lt (Nat.mul_ne_zero hm hn)).2 c
 omega
theorem WH {s t:Bool} {m n:Nat} {i j:Int} (hx:DD.read x=.number s m i) (hy:DD.read y=.number t n j):DD.mul x y=some (DD.nearest (s ^^ t) (m*n) (i+j)):=by
 unfold Ieee.Format.mul;rw[hx,hy];rfl
theorem Ue {m n:Nat} {i j:Int} (hm:Lw m i e) (hn:Lw n j f):Lw (m*n) (i+j) ((e+f:Nat):Int):=by
 unfold Lw at *
 by_cases h1:m=0
 ·exact .inl (by rw[h1,Nat.zero_mul])
 by_cases h2:n=0
 ·exact .inl (by rw[h2,Nat.mul_zero])
 have hl:=P3 h1 h2
 have a:m<2 ^ (m.log2+1):=Nat.lt_log2_self
 have b:n<2 ^ (n.log2+1):=Nat.lt_log2_self
 have h0:=Nat.mul_ne_zero h1 h2
 refine .inr ?_
 rcases hm.resolve_left h1 with c|⟨c1,c2⟩
 ·rcases hn.resolve_left h2 with d|⟨d1,d2⟩
  ·exact .inl (by omega)
  ·have g:m*n<2 ^ (m.log2+1+n.log2):=by
    rw[Nat.pow_add,← d1];exact Nat.mul_lt_mul_of_pos_right a (Nat.pos_of_ne_zero h2)
   have:=(Nat.log2_lt h0).2 g
   exact .inl (by omega)
 ·rcases hn.resolve_left h2 with d|⟨d1,d2⟩
  ·have g:m*n<2 ^ (m.log2+(n.log2+1)):=by
    rw[Nat.pow_add,← c1];exact Nat.mul_lt_mul_of_pos_left b (Nat.pos_of_ne_zero h1)
   have:=(Nat.log2_lt h0).2 g
   exact .inl (by omega)
  ·have g:m*n=2 ^ (m.log2+n.log2):=by rw[Nat.pow_add,← c1,← d1]
   have g2:(m*n).log2=m.log2+n.log2:=by rw[g];exact Vf (Nat.le_refl _) (Nat.pow_lt_pow_right (by decide) (by omega))
   exact .inr ⟨by rw[g2];exact g,by omega⟩
theorem fmS [hx:Bd e x] [hy:Bd f y] (h:e≤1000∧f≤1000:=by decide):(FloatKind.f64.format.mul x y).isSome=true:=by
 obtain⟨s,m,i,h1,_⟩:=hx.bd h.1
 obtain⟨t,n,j,h2,_⟩:=hy.bd h.2
 rw[WH h1 h2];rfl
instance bdM [hx:Bd e x] [hy:Bd f y]:Bd (e+f) (Zd x y):=⟨fun he=>by
 obtain⟨s,m,i,h1,k1⟩:=hx.bd (by omega)
 obtain⟨t,n,j,h2,k2⟩:=hy.bd (by omega)
 obtain⟨m',p',r1,r2,_⟩:=QE (s ^^ t) (Ue k1 k2) (by omega) (by omega)
 refine⟨(s ^^ t:Bool),m',p',?_,r2.mono (by omega)⟩
 unfold Zd;rw[WH h1 h2];exact r1⟩
instance poM [hx:Po e x] [hy:Po f y]:Po (e+f) (Zd x y):=⟨fun he=>by
 obtain⟨m,i,h1,k1⟩:=hx.po (by omega)
 obtain⟨n,j,h2,k2⟩:=hy.po (by omega)
 obtain⟨m',p',r1,r2,_⟩:=QE (false ^^ false) (Ue k1 k2) (by omega) (by omega)
 refine⟨m',p',?_,r2.mono (by omega)⟩
 unfold Zd;rw[WH h1 h2];exact r1⟩
instance poS [hx:Bd e x]:Po (e+e) (Zd x x):=⟨fun he=>by
 obtain⟨s,m,i,h1,k1⟩:=hx.bd (by omega)
 obtain⟨m',p',r1,r2,_⟩:=QE (s ^^ s) (Ue k1 k1) (by omega) (by omega)
 refine⟨m',p',?_,r2.mono (by omega)⟩
 unfold Zd;rw[WH h1 h1]
 rw[Bool.xor_self] at r1 ⊢;exact r1⟩
theorem H8 {m:Nat} {i b:Int} {K:Nat} (hm:Lw m i (b+K)) (hi:b≤i):m <<< (i-b).toNat≤2 ^ K:=by
 unfold Lw at hm
 rw[Nat.shiftLeft_eq]
 by_cases h1:m=0
 ·rw[h1,Nat.zero_mul];exact Nat.zero_le _
 have a:m<2 ^ (m.log2+1):=Nat.lt_log2_self
 rcases hm.resolve_left h1 with h|⟨h,h3⟩
 ·have c:=Nat.mul_lt_mul_of_pos_right a (Nat.two_pow_pos (i-b).toNat)
  rw[← Nat.pow_add] at c
  exact Nat.le_of_lt (Nat.lt_of_lt_of_le c (Nat.pow_le_pow_right (by decide) (by omega)))
 ·rw[show K=m.log2+(i-b).toNat by omega,Nat.pow_add,← h]
  exact Nat.le_refl _
theorem D6 {s t:Bool} {m n:Nat} {i j:Int} (hx:DD.read x=.number s m i) (hy:DD.read y=.number t n j):∃ tot:Int,tot=Ieee.signed s m (i-min i j).toNat+Ieee.signed t n (j-min i j).toNat ∧
  DD.add x y=some (DD.nearest (if tot=0 then s&&t else tot<0) tot.natAbs (min i j)):=by
 refine⟨_,rfl,?_⟩
 unfold Ieee.Format.add;rw[hx,hy];rfl
theorem LN {s t:Bool} {m n:Nat} {i j:Int} (hx:DD.read x=.number s m i) (hy:DD.read y=.number t n j):∃ tot:Int,tot=Ieee.signed s m (i-min i j).toNat+Ieee.signed (!t) n (j-min i j).toNat ∧
  DD.sub x y=some (DD.nearest (if tot=0 then s&&!t else tot<0) tot.natAbs (min i j)):=by
 refine⟨_,rfl,?_⟩
 unfold Ieee.Format.sub;rw[hx,hy];rfl
theorem H9 (s:Bool) (m a:Nat):(Ieee.signed s m a).natAbs=m <<< a:=by
 unfold Ieee.signed;cases s
 ·exact Int.natAbs_natCast (m <<< a)
 ·exact(Int.natAbs_neg _).trans (Int.natAbs_natCast (m <<< a))
theorem D7 {s t:Bool} {m n:Nat} {i j:Int} (hm:Lw m i e) (hn:Lw n j f) {tot:Int} (h:tot=Ieee.signed s m (i-min i j).toNat+Ieee.signed t n (j-min i j).toNat) :
  Lw tot.natAbs (min i j) ((max e f+1:Nat):Int):=by
 unfold Lw
 by_cases h0:tot.natAbs=0
 ·exact .inl h0
 refine .inr ?_
 have s1:=H9 s m (i-min i j).toNat
 have s2:=H9 t n (j-min i j).toNat
 by_cases hz:0≤((max e f:Nat):Int)-min i j
 ·obtain⟨K,hK⟩:∃ K:Nat,K=(((max e f:Nat):Int)-min i j).toNat:=⟨_,rfl⟩
  have a1:=H8 (m:=m) (i:=i) (b:=min i j) (K:=K) (hm.mono (by omega)) (by omega)
  have a2:=H8 (m:=n) (i:=j) (b:=min i j) (K:=K) (hn.mono (by omega)) (by omega)
  have a3:tot.natAbs≤2 ^ (K+1):=by
   rw[Nat.pow_succ]
   generalize m <<< (i-min i j).toNat=A at *
   generalize n <<< (j-min i j).toNat=B at *
   omega
  by_cases a5:tot.natAbs=2 ^ (K+1)
  ·have a4:tot.natAbs.log2=K+1:=by rw[a5];exact Vf (Nat.le_refl _) (Nat.pow_lt_pow_right (by decide) (by omega))
   exact .inr ⟨by rw[a4];exact a5,by omega⟩
  ·have a4:=(Nat.log2_lt h0).2 (show tot.natAbs<2 ^ (K+1) by omega)
   exact .inl (by omega)
 ·exfalso
  have m0:m=0:=by unfold Lw at hm;omega
  have n0:n=0:=by unfold Lw at hn;omega
  rw[m0,Nat.zero_shiftLeft] at s1
  rw[n0,Nat.zero_shiftLeft] at s2
  rw[m0,n0] at h
  omega
theorem faS [hx:Bd e x] [hy:Bd f y] (h:e≤1000∧f≤1000:=by decide):(FloatKind.f64.format.add x y).isSome=true:=by
 obtain⟨s,m,i,h1,_⟩:=hx.bd h.1
 obtain⟨t,n,j,h2,_⟩:=hy.bd h.2
 obtain⟨_,_,h3⟩:=D6 h1 h2
 rw[h3];rfl
theorem fsS [hx:Bd e x] [hy:Bd f y] (h:e≤1000∧f≤1000:=by decide):(FloatKind.f64.format.sub x y).isSome=true:=by
 obtain⟨s,m,i,h1,_⟩:=hx.bd h.1
 obtain⟨t,n,j,h2,_⟩:=hy.bd h.2
 obtain⟨_,_,h3⟩:=LN h1 h2
 rw[h3];rfl
instance bdA [hx:Bd e x] [hy:Bd f y]:Bd (max e f+1) (Zh x y):=⟨fun he=>by
 obtain⟨s,m,i,h1,k1⟩:=hx.bd (by omega)
 obtain⟨t,n,j,h2,k2⟩:=hy.bd (by omega)
 obtain⟨tot,h3,h4⟩:=D6 h1 h2
 obtain⟨m',p',r1,r2,_⟩:=QE (if tot=0 then s&&t else tot<0) (D7 k1 k2 h3) (by omega) (by omega)
 refine⟨(if tot=0 then s&&t else tot<0:Bool),m',p',?_,r2.mono (by omega)⟩
 unfold Zh;rw[h4];exact r1⟩
instance bdB [hx:Bd e x] [hy:Bd f y]:Bd (max e f+1) (Ym x y):=⟨fun he=>by
 obtain⟨s,m,i,h1,k1⟩:=hx.bd (by omega)
 obtain⟨t,n,j,h2,k2⟩:=hy.bd (by omega)
 obtain⟨tot,h3,h4⟩:=LN h1 h2
 obtain⟨m',p',r1,r2,_⟩:=QE (if tot=0 then s&&!t else tot<0) (D7 k1 k2 h3) (by omega) (by omega)
 refine⟨(if tot=0 then s&&!t else tot<0:Bool),m',p',?_,r2.mono (by omega)⟩
 unfold Ym;rw[h4];exact r1⟩
theorem Q1 (m a:Nat):Ieee.signed false m a=((m <<< a:Nat):Int):=rfl
instance poA [hx:Po e x] [hy:Po f y]:Po (max e f+1) (Zh x y):=⟨fun he=>by
 obtain⟨m,i,h1,k1⟩:=hx.po (by omega)
 obtain⟨n,j,h2,k2⟩:=hy.po (by omega)
 obtain⟨tot,h3,h4⟩:=D6 h1 h2
 obtain⟨m',p',r1,r2,_⟩:=QE (if tot=0 then false&&false else tot<0) (D7 k1 k2 h3) (by omega) (by omega)
 rw[Q1,Q1] at h3
 have h5:0≤tot:=by rw[h3];exact Int.add_nonneg (Int.natCast_nonneg _) (Int.natCast_nonneg _)
 have e1:(if tot=0 then false&&false else decide (tot<0))=false:=by split;rfl;exact decide_eq_false (by omega)
 refine⟨m',p',?_,r2.mono (by omega)⟩
 unfold Zh;rw[h4]
 rw[e1] at r1 ⊢;exact r1⟩
instance pgA [hx:Po e x] [hy:Pg f y]:Pg (max e f+1) (Zh x y):=⟨fun he=>by
 obtain⟨m,i,h1,k1⟩:=hx.po (by omega)
 obtain⟨n,j,h2,k2,k3,k4⟩:=hy.pg (by omega)
 obtain⟨tot,h3,h4⟩:=D6 h1 h2
 obtain⟨m',p',r1,r2,r3⟩:=QE (if tot=0 then false&&false else tot<0) (D7 k1 k2 h3) (by omega) (by omega)
 rw[Q1,Q1] at h3
 have h5:0≤tot:=by rw[h3];exact Int.add_nonneg (Int.natCast_nonneg _) (Int.natCast_nonneg _)
 have e1:(if tot=0 then false&&false else decide (tot<0))=false:=by split;rfl;exact decide_eq_false (by omega)
 have q1:2 ^ (n.log2+(j-min i j).toNat)≤n <<< (j-min i j).toNat:=by
  rw[Nat.shiftLeft_eq,Nat.pow_add];exact Nat.mul_le_mul_right _ (Nat.log2_self_le k3)
 have h6:tot.natAbs=m <<< (i-min i j).toNat+n <<< (j-min i j).toNat:=by rw[h3,← Int.natCast_add];exact Int.natAbs_natCast _
 generalize n <<< (j-min i j).toNat=B at q1 h6
 generalize m <<< (i-min i j).toNat=A at h6
 have q2:tot.natAbs≠0:=by have:=Nat.two_pow_pos (n.log2+(j-min i j).toNat);omega
 have q3:n.log2+(j-min i j).toNat≤tot.natAbs.log2:=(Nat.le_log2 q2).2 (by omega)
 have r4:=r3 q2 (by omega)
 refine⟨m',p',?_,r2.mono (by omega),r4⟩
 unfold Zh;rw[h4]
 rw[e1] at r1 ⊢;exact r1⟩
theorem O6 {m n:Nat} {i j:Int} (hm:Lw m i e) (hm0:m≠0) (hn:n≠0) (hn2:0≤(n.log2:Int)+j) (more:Nat) (hmore:n.log2≤m.log2+more) :
  Lw (2*(m <<< more/n)+(m <<< more%n != 0).toNat) (i-j-more-1) e:=by
 unfold Lw at *
 by_cases h0:2*(m <<< more/n)+(m <<< more%n != 0).toNat=0
 ·exact .inl h0
 refine .inr ?_
 have b:=Bool.toNat_le (m <<< more%n != 0)
 have a:m<2 ^ (m.log2+1):=Nat.lt_log2_self
 have a1:=Nat.log2_self_le hn
 rcases hm.resolve_left hm0 with h|⟨h,h3⟩
 ·have c:=Nat.mul_lt_mul_of_pos_right a (Nat.two_pow_pos more)
  rw[← Nat.pow_add,← Nat.shiftLeft_eq] at c
  obtain⟨k,hk⟩:∃ k,k=m.log2+1+more-n.log2:=⟨_,rfl⟩
  have d:m <<< more/n<2 ^ k:=by
   rw[Nat.div_lt_iff_lt_mul (Nat.pos_of_ne_zero hn)]
   refine Nat.lt_of_lt_of_le c ?_
   rw[show m.log2+1+more=k+n.log2 by omega,Nat.pow_add]
   exact Nat.mul_le_mul_left _ a1
  have g:2*(m <<< more/n)+(m <<< more%n != 0).toNat<2 ^ (k+1):=by rw[Nat.pow_succ];omega
  have:=(Nat.log2_lt h0).2 g
  exact .inl (by omega)
 ·obtain⟨k,hk⟩:∃ k,k=m.log2+more-n.log2:=⟨_,rfl⟩
  have hD:m <<< more=2 ^ k*2 ^ n.log2:=by rw[Nat.shiftLeft_eq,← Nat.pow_add,show k+n.log2=m.log2+more by omega,Nat.pow_add,← h]
  by_cases hn3:n=2 ^ n.log2
  ·have d:m <<< more/n=2 ^ k:=by rw[hD,← hn3];exact Nat.mul_div_cancel _ (Nat.pos_of_ne_zero hn)
   have d2:m <<< more%n=0:=by rw[hD,← hn3];exact Nat.mul_mod_left _ _
   rw[d,d2] at h0 ⊢
   have g:2*2 ^ k+((0:Nat) != 0).toNat=2 ^ (k+1):=by rw[Nat.pow_succ,Nat.mul_comm];rfl
   rw[g]
   have g2:(2 ^ (k+1)).log2=k+1:=Vf (Nat.le_refl _) (Nat.pow_lt_pow_right (by decide) (by omega))
   rw[g2]
   by_cases g3:(n.log2:Int)+j=0
   ·exact .inr ⟨rfl,by omega⟩
   ·exact .inl (by omega)
  ·have d:m <<< more/n<2 ^ k:=by
    rw[Nat.div_lt_iff_lt_mul (Nat.pos_of_ne_zero hn),hD]
    exact Nat.mul_lt_mul_of_pos_left (by omega) (Nat.two_pow_pos k)
   have g:2*(m <<< more/n)+(m <<< more%n != 0).toNat<2 ^ (k+1):=by rw[Nat.pow_succ];omega
   have:=(Nat.log2_lt h0).2 g
   exact .inl (by omega)
theorem WI {s t:Bool} {m n:Nat} {i j:Int} (hx:DD.read x=.number s m i) (hy:DD.read y=.number t n j) (hn:n≠0):∃ more:Nat,more=54+n.log2-m.log2 ∧
  DD.div x y=some (DD.nearest (s ^^ t) (2*(m <<< more/n)+(m <<< more%n != 0).toNat) (i-j-more-1)):=by
 refine⟨_,rfl,?_⟩
 unfold Ieee.Format.div;rw[hx,hy]
 simp only[Ieee.Datum.quotient,if_neg hn,LM]
 rfl
theorem fdS [hx:Bd e x] [hy:Ge f y] (h:e≤1000∧f≤1000:=by decide):(FloatKind.f64.format.div x y).isSome=true:=by
 obtain⟨s,m,i,h1,_⟩:=hx.bd h.1
 obtain⟨t,n,j,h2,_,h4,_⟩:=hy.ge h.2
 obtain⟨_,_,h3⟩:=WI h1 h2 h4
 rw[h3];rfl
theorem zero_div {n more:Nat}:2*(0 <<< more/n)+(0 <<< more%n != 0).toNat=0:=by simp
theorem D8 {m n:Nat} {i j:Int} (hm2:Lw m i e) (hn:n≠0) (hn2:0≤(n.log2:Int)+j) {more:Nat} (hmore:more=54+n.log2-m.log2) :
  Lw (2*(m <<< more/n)+(m <<< more%n != 0).toNat) (i-j-more-1) e:=by
 by_cases hm:m=0
 ·subst hm;exact .inl zero_div
 ·exact O6 hm2 hm hn hn2 more (by omega)
theorem TJ [hx:Bd e x] [hy:Ge f y] (hf:f≤1000:=by decide):Bd e (fdiv x y):=⟨fun he=>by
 obtain⟨s,m,i,h1,k1⟩:=hx.bd he
 obtain⟨t,n,j,h2,k2,k3,k4⟩:=hy.ge hf
 obtain⟨more,h3,h4⟩:=WI h1 h2 k3
 obtain⟨m',p',r1,r2,_⟩:=QE (s ^^ t) (D8 k1 k3 k4 h3) (by omega) (by omega)
 refine⟨(s ^^ t:Bool),m',p',?_,r2⟩
 unfold fdiv;rw[h4];exact r1⟩
instance bdD [hx:Bd e x] [hy:Ge f y]:Bd (max e f) (fdiv x y):=⟨fun he=>by
 obtain⟨s,m,i,h1,k1⟩:=hx.bd (by omega)
 obtain⟨t,n,j,h2,k2,k3,k4⟩:=hy.ge (by omega)
 obtain⟨more,h3,h4⟩:=WI h1 h2 k3
 obtain⟨m',p',r1,r2,_⟩:=QE (s ^^ t) (D8 k1 k3 k4 h3) (by omega) (by omega)
 refine⟨(s ^^ t:Bool),m',p',?_,r2.mono (by omega)⟩
 unfold fdiv;rw[h4];exact r1⟩
instance poD [hx:Po e x] [hy:Pg f y]:Po (max e f) (fdiv x y):=⟨fun he=>by
 obtain⟨m,i,h1,k1⟩:=hx.po (by omega)
 obtain⟨n,j,h2,k2,k3,k4⟩:=hy.pg (by omega)
 obtain⟨more,h3,h4⟩:=WI h1 h2 k3
 obtain⟨m',p',r1,r2,_⟩:=QE (false ^^ false) (D8 k1 k3 k4 h3) (by omega) (by omega)
 refine⟨m',p',?_,r2.mono (by omega)⟩
 unfold fdiv;rw[h4];exact r1⟩
end
end Go.Eng
end
section
namespace Go.Eng
open Go.RowKit (Below)
def TK (e x:Nat) (s g:Bool):Bool:=match DD.read x with
 | .number t m p=>(!s||!t)&&(decide (m=0)||(decide ((m.log2:Int)+p<e)||(decide (m=2 ^ m.log2)&&decide ((m.log2:Int)+p=e))))&&(!g||(decide (m≠0)&&decide (0≤(m.log2:Int)+p)))
 | _=>false
theorem MH {e x:Nat} {s g:Bool} (h:TK e x s g=true):∃ t m p,DD.read x=.number t m p∧(s=true→t=false)∧Lw m p e∧(g=true→m≠0∧0≤(m.log2:Int)+p):=by
 unfold TK at h
 split at h
 ·rename_i t m p hr
  simp only[Bool.and_eq_true,Bool.or_eq_true,Bool.not_eq_true',decide_eq_true_eq] at h
  refine⟨t,m,p,hr,fun hs=>h.1.1.resolve_left (by rw[hs];decide),h.1.2,fun hg=>h.2.resolve_left (by rw[hg];decide)⟩
 ·cases h
section
variable {e x:Nat}
theorem KT (h:TK e x false false=true):Bd e x:=⟨fun _=>by obtain⟨t,m,p,h1,_,h2,_⟩:=MH h;exact⟨t,m,p,h1,h2⟩⟩
theorem JD (h:TK e x true false=true):Po e x:=⟨fun _=>by obtain⟨t,m,p,h1,h0,h2,_⟩:=MH h;rw[h0 rfl] at h1;exact⟨m,p,h1,h2⟩⟩
theorem K6 (h:TK e x true true=true):Pg e x:=⟨fun _=>by obtain⟨t,m,p,h1,h0,h2,h3⟩:=MH h;rw[h0 rfl] at h1;exact⟨m,p,h1,h2,h3 rfl⟩⟩
end
set_option maxRecDepth 4000
instance:Pg 1 4608412980311869571:=K6 (by decide)
instance:Pg 0 4607182418800017408:=K6 (by decide)
instance:Po 0 4605249456957292544:=JD (by decide)
instance:Po 0 4495793288086814720:=JD (by decide)
instance:Po 0 4388835458085048688:=JD (by decide)
instance:Po 0 4602678819172646912:=JD (by decide)
instance:Po 0 4460209587652500685:=JD (by decide)
instance:Bd 0 13716528389658582877:=KT (by decide)
instance:Po 0 4523617212962785441:=JD (by decide)
instance:Bd 0 13774824197404483331:=KT (by decide)
instance:Po 0 4575957461383575504:=JD (by decide)
instance:Bd 0 13818544856648471880:=KT (by decide)
instance:Bd 0 13666448263388469915:=KT (by decide)
instance:Po 0 4477121864728985349:=JD (by decide)
instance:Bd 0 13732177093698800582:=KT (by decide)
instance:Po 0 4537941361668146421:=JD (by decide)
instance:Bd 0 13787419979223748497:=KT (by decide)
instance:Po 0 4586165620538955083:=JD (by decide)
instance:Pg 14 4670232813583204352:=K6 (by decide)
instance:Pg 2 4614256656552045848:=K6 (by decide)
instance:Pg 11 4656722014701092864:=K6 (by decide)
instance:Bd 0 13829429103926125972:=KT (by decide)
instance:Bd 5 13848613196940411002:=KT (by decide)
instance:Bd 7 13858350711815275123:=KT (by decide)
instance:Bd 7 13861719834326579749:=KT (by decide)
instance:Bd 7 13857635882265799822:=KT (by decide)
instance:Pg 5 4627690253511319612:=K6 (by decide)
instance:Pg 8 4640010388282866213:=K6 (by decide)
instance:Pg 9 4646322940342877755:=K6 (by decide)
instance:Pg 9 4647246694406179306:=K6 (by decide)
instance:Pg 8 4641049159275471596:=K6 (by decide)
instance:Po 0 4604119971053405471:=JD (by decide)
instance:Pg 2 4612618744449965542:=K6 (by decide)
instance:Pg 1 4609753056924675352:=K6 (by decide)
instance:Po 0 4364452196894661639:=JD (by decide)
instance:Po 0 4605249457297304856:=JD (by decide)
instance:Po 0 4359948597267291143:=JD (by decide)
instance:Po 0 0:=JD (by decide)
section
variable {e f x y:Nat}
theorem TM (n:Int):dbl n=DD.nearest (n<0) n.natAbs 0:=rfl
theorem D9 {n:Int} (h:n.natAbs<2 ^ e):Lw n.natAbs 0 e:=by
 by_cases h0:n.natAbs=0
 ·exact .inl h0
 ·have:=(Nat.log2_lt h0).2 h;exact .inr (.inl (by omega))
theorem O7 {n:Int} (e:Nat) (h:n.natAbs<2 ^ e):Bd e (dbl n):=⟨fun he=>by
 obtain⟨m',p',r1,r2,_⟩:=QE (n<0) (D9 h) (by omega) (by omega)
 exact⟨_,m',p',r1,r2⟩⟩
theorem O8 {n:Int} (e:Nat) (h:n.natAbs<2 ^ e) (h0:n≠0):Ge e (dbl n):=⟨fun he=>by
 obtain⟨m',p',r1,r2,r3⟩:=QE (n<0) (D9 h) (by omega) (by omega)
 have:=r3 (by omega) (by omega)
 exact⟨_,m',p',r1,r2,this⟩⟩
theorem TN {n:Int} (e:Nat) (h:n.natAbs<2 ^ e) (h0:0≤n):Po e (dbl n):=⟨fun he=>by
 obtain⟨m',p',r1,r2,_⟩:=QE false (D9 h) (by omega) (by omega)
 refine⟨m',p',?_,r2⟩
 rw[TM,decide_eq_false (by omega)];exact r1⟩
theorem DC {m:Nat} {p:Int} (h:Lw m p e):(m <<< p.toNat)/2 ^ (min (-p).toNat ((m <<< p.toNat).log2+2))≤2 ^ e:=by
 by_cases hp:0≤p
 ·rw[show (-p).toNat=0 by omega,Nat.zero_min,Nat.pow_zero,Nat.div_one]
  have:=H8 (b:=0) (K:=e) (by rw[Int.zero_add];exact h) hp
  rwa [Int.sub_zero] at this
 unfold Lw at h
 by_cases h0:m=0
 ·rw[h0,Nat.zero_shiftLeft,Nat.zero_div];exact Nat.zero_le _
 have h:=h.resolve_left h0
 have a:m<2 ^ (m.log2+1):=Nat.lt_log2_self
 rw[show p.toNat=0 by omega,Nat.shiftLeft_zero]
 by_cases hq:(-p).toNat≤m.log2+2
 ·rw[Nat.min_eq_left hq]
  rcases h with h|⟨h,h3⟩
  ·refine Nat.le_of_lt ?_
   rw[Nat.div_lt_iff_lt_mul (Nat.two_pow_pos _),← Nat.pow_add]
   exact Nat.lt_of_lt_of_le a (Nat.pow_le_pow_right (by decide) (by omega))
  ·refine Nat.div_le_of_le_mul ?_
   rw[← Nat.pow_add]
   refine Nat.le_trans (Nat.le_of_eq h) (Nat.pow_le_pow_right (by decide) (by omega))
 ·rw[Nat.min_eq_right (by omega),Nat.div_eq_of_lt (Nat.lt_of_lt_of_le a (Nat.pow_le_pow_right (by decide) (by omega)))]
  exact Nat.zero_le _
theorem O9 (neg:Bool) (n drop:Nat):Ieee.Toward.zero.cut neg n drop=n/2 ^ (min drop (n.log2+2)):=by
 unfold Ieee.Toward.cut
 simp only[Nat.one_shiftLeft,Bool.toNat_false,Nat.add_zero]
theorem TO [h:Bd e x] (he:e≤1000):∃ (s:Bool) (a:Nat),a≤2 ^ e∧(FloatKind.f64.decode x).toInt .zero=some (if s then -(a:Int) else a)∧f2i x=if s then -(a:Int) else a:=by
 obtain⟨s,m,p,h1,h2⟩:=h.bd he
 have hb:=DC h2
 have hr:FloatKind.f64.decode x=.number s m p:=h1
 have ht:(FloatKind.f64.decode x).toInt .zero=some (if s then -((m <<< p.toNat/2 ^ (min (-p).toNat ((m <<< p.toNat).log2+2)):Nat):Int) else (m <<< p.toNat/2 ^ (min (-p).toNat ((m <<< p.toNat).log2+2)):Nat)):=by
  rw[hr]
  simp only[Ieee.Datum.toInt,Ieee.Datum.integral,O9,Ieee.signed,Nat.shiftLeft_zero]
 exact⟨s,_,hb,ht,by unfold f2i;rw[ht];rfl⟩
theorem P4 [h:Bd e x] (he:e≤62:=by decide):floatToIntVal .f64 x .i64=some (f2i x):=by
 obtain⟨s,a,h1,h2,h3⟩:=TO (x:=x) (e:=e) (by omega)
 have h4:2 ^ e≤2 ^ 62:=Nat.pow_le_pow_right (by decide) he
 have h5:(2:Nat) ^ 62=4611686018427387904:=rfl
 have m1:IntKind.i64.min=-9223372036854775808:=rfl
 have m2:IntKind.i64.max=9223372036854775807:=rfl
 unfold floatToIntVal
 rw[h2,h3]
 simp only
 rw[m1,m2,if_pos (by split <;> omega)]
theorem P5 [h:Po e x] (he:e≤62:=by decide):floatToIntVal .f64 x .u64=some (f2i x):=by
 obtain⟨m,p,h1,h2⟩:=h.po (by omega)
 have hb:=DC h2
 have hr:FloatKind.f64.decode x=.number false m p:=h1
 have h4:2 ^ e≤2 ^ 62:=Nat.pow_le_pow_right (by decide) he
 have h5:(2:Nat) ^ 62=4611686018427387904:=rfl
 have ht:(FloatKind.f64.decode x).toInt .zero=some ((m <<< p.toNat/2 ^ (min (-p).toNat ((m <<< p.toNat).log2+2)):Nat):Int):=by
  rw[hr]
  simp only[Ieee.Datum.toInt,Ieee.Datum.integral,O9,Ieee.signed,Nat.shiftLeft_zero,Bool.false_eq_true,if_false]
 have m1:IntKind.u64.min=0:=rfl
 have m2:IntKind.u64.max=18446744073709551615:=rfl
 obtain⟨a,ha⟩:∃ a,m <<< p.toNat/2 ^ (min (-p).toNat ((m <<< p.toNat).log2+2))=a:=⟨_,rfl⟩
 rw[ha] at hb ht
 unfold floatToIntVal f2i
 rw[ht]
 simp only
 rw[m1,m2,if_pos (by omega)]
 rfl
theorem OA [h:Po e x] (he:e≤1000:=by decide):0≤f2i x∧(f2i x).natAbs≤2 ^ e:=by
 obtain⟨m,p,h1,h2⟩:=h.po he
 have hb:=DC h2
 have hr:FloatKind.f64.decode x=.number false m p:=h1
 have ht:f2i x=((m <<< p.toNat/2 ^ (min (-p).toNat ((m <<< p.toNat).log2+2)):Nat):Int):=by
  unfold f2i;rw[hr]
  simp only[Ieee.Datum.toInt,Ieee.Datum.integral,O9,Ieee.signed,Nat.shiftLeft_zero,Bool.false_eq_true,if_false,Option.getD_some]
 rw[ht]
 exact⟨Int.natCast_nonneg _,by rw[Int.natAbs_natCast];exact hb⟩
theorem MI [h:Bd e x] (he:e≤1000):∃ (s:Bool) (a:Nat),a≤2 ^ e+1∧FloatKind.f64.encode ((FloatKind.f64.decode x).integral .down)=DD.nearest s a 0:=by
 obtain⟨s,m,p,h1,h2⟩:=h.bd he
 have hb:=DC h2
 have hr:FloatKind.f64.decode x=.number s m p:=h1
 refine⟨s,Ieee.Toward.down.cut s (m <<< p.toNat) (-p).toNat,?_,by rw[hr];rfl⟩
 have:=(MF .down s (m <<< p.toNat) (-p).toNat).2
 omega
instance bdF [h:Bd e x]:Bd (e+1) (VG x):=⟨fun he=>by
 obtain⟨s,a,h1,h2⟩:=MI (x:=x) (e:=e) (by omega)
 have h3:Lw a 0 ((e+1:Nat):Int):=by
  by_cases h0:a=0
  ·exact .inl h0
  have hp:=Nat.two_pow_pos e
  by_cases h5:a=2 ^ (e+1)
  ·have a4:a.log2=e+1:=by rw[h5];exact Vf (Nat.le_refl _) (Nat.pow_lt_pow_right (by decide) (by omega))
   exact .inr (.inr ⟨by rw[a4];exact h5,by omega⟩)
  ·have:=(Nat.log2_lt h0).2 (show a<2 ^ (e+1) by rw[Nat.pow_succ] at h5 ⊢;omega)
   exact .inr (.inl (by omega))
 obtain⟨m',p',r1,r2,_⟩:=QE s h3 (by omega) (by omega)
 refine⟨s,m',p',?_,r2⟩
 unfold VG;rw[h2];exact r1⟩
theorem EX [h:Bd e x] (he:e≤1000:=by decide):∃ s m p,FloatKind.f64.decode x=.number s m p:=by
 obtain⟨s,m,p,h1,_⟩:=h.bd he
 exact⟨s,m,p,h1⟩
theorem MJ {f:FuncId} {P:Program} {w:World} {fn:Func} {b:Nat} (hf:P.funcs[f]?=some fn) (hname:(fn.name == "runtime.NumGoroutine")=false) (hb:fn.body.isNone=true) (hn:Extern.findNext fn=none)
  (he:Extern.find fn=some (Extern.MathFloor.toIntegral "math.archFloor" .down)) (hx:∃ s m p,FloatKind.f64.decode b=.number s m p):(callFunc f #[.float .f64 b]).run P w=.ok (.value (.float .f64 (VG b))) w:=by
 rw[run_callFunc_extern hf hname hb hn he]
 obtain⟨s,m,p,h⟩:=hx
 have e:Extern.MathFloor.toIntegral "math.archFloor" .down #[.float .f64 b]=pure (.float .f64 (VG b)):=by
  unfold VG
  conv=>lhs;whnf
  rw[h]
 rw[e]
 rfl
def mkD (s:Bool) (r:Nat):Ieee.Datum :=
 if r<DD.binade then .number s r DD.leastPlace else if r<DD.infRung then .number s (DD.binade+r%DD.binade) (DD.leastPlace+(r/DD.binade-1:Nat)) else if r=DD.infRung then .infinity s else .nan s (r-DD.infRung)
theorem DF (x:Nat):DD.read x=mkD (x/DD.signWeight%2==1) (x%DD.signWeight):=rfl
theorem P6 (s:Bool) (r:Nat):mkD (!s) r=(mkD s r).opposite:=by
 unfold mkD
 by_cases c1:r<DD.binade
 ·rw[if_pos c1,if_pos c1];rfl
 rw[if_neg c1,if_neg c1]
 by_cases c2:r<DD.infRung
 ·rw[if_pos c2,if_pos c2];rfl
 rw[if_neg c2,if_neg c2]
 by_cases c3:r=DD.infRung
 ·rw[if_pos c3,if_pos c3];rfl
 ·rw[if_neg c3,if_neg c3];rfl
theorem P7 {s:Bool} {r m:Nat} {p:Int} (h:mkD s r=.number s m p) (t:Bool):mkD t r=.number t m p:=by
 unfold mkD at h ⊢
 by_cases c1:r<DD.binade
 ·rw[if_pos c1] at h ⊢;cases h;rfl
 rw[if_neg c1] at h ⊢
 by_cases c2:r<DD.infRung
 ·rw[if_pos c2] at h ⊢;cases h;rfl
 rw[if_neg c2] at h
 by_cases c3:r=DD.infRung
 ·rw[if_pos c3] at h;cases h
 ·rw[if_neg c3] at h;cases h
theorem TP {s t:Bool} {r m:Nat} {p:Int} (h:mkD s r=.number t m p):t=s:=by
 unfold mkD at h
 by_cases c1:r<DD.binade
 ·rw[if_pos c1] at h;cases h;rfl
 rw[if_neg c1] at h
 by_cases c2:r<DD.infRung
 ·rw[if_pos c2] at h;cases h;rfl
 rw[if_neg c2] at h
 by_cases c3:r=DD.infRung
 ·rw[if_pos c3] at h;cases h
 ·rw[if_neg c3] at h;cases h
theorem BB (x:Nat):DD.read (U5 x)=(DD.read x).opposite:=by
 have h1:(x ^^^ 9223372036854775808)%9223372036854775808=x%9223372036854775808:=by
  have:=Nat.xor_mod_two_pow (a:=x) (b:=9223372036854775808) (n:=63)
  rw[show (2:Nat) ^ 63=9223372036854775808 from rfl,Nat.mod_self,Nat.xor_zero] at this
  exact this
 have h2:(x ^^^ 9223372036854775808)/9223372036854775808=(x/9223372036854775808) ^^^ 1:=by
  have:=Nat.xor_div_two_pow (a:=x) (b:=9223372036854775808) (n:=63)
  rw[show (2:Nat) ^ 63=9223372036854775808 from rfl] at this
  rw[this]
 have h3:(((x/9223372036854775808) ^^^ 1)%2==1)=!(x/9223372036854775808%2==1):=by
  have:=Nat.xor_mod_two_pow (a:=x/9223372036854775808) (b:=1) (n:=1)
  rw[Nat.pow_one] at this
  rw[this]
  rcases Nat.mod_two_eq_zero_or_one (x/9223372036854775808) with h|h <;> rw[h] <;> rfl
 rw[DF,DF,U5,WG,h1,h2,h3,P6]
instance bdN [h:Bd e x]:Bd e (U5 x):=⟨fun he=>by
 obtain⟨s,m,p,h1,h2⟩:=h.bd he
 exact⟨!s,m,p,by rw[BB,h1];rfl,h2⟩⟩
theorem JZ {s t:Bool} {m n:Nat} {i j:Int} (hx:DD.read x=.number s m i) (hy:DD.read y=.number t n j):fcm x y=some (compare (Ieee.signed s m (i-min i j).toNat) (Ieee.signed t n (j-min i j).toNat)):=by
 unfold fcm Ieee.Format.order
 rw[show FloatKind.f64.format.read x=.number s m i from hx,show FloatKind.f64.format.read y=.number t n j from hy];rfl
theorem RG (a:Int):compare a a=Ordering.eq:=by
 show compareOfLessAndEq a a=_
 unfold compareOfLessAndEq
 rw[if_neg (by omega),if_pos rfl]
theorem LO {a b:Int}:compare a b=Ordering.lt↔a<b:=by
 show compareOfLessAndEq a b=_↔_
 unfold compareOfLessAndEq
 by_cases h:a<b
 ·simp[h]
 ·by_cases h2:a=b <;> simp[h,h2]
theorem WJ {a b:Int}:compare a b=Ordering.gt↔b<a:=by
 show compareOfLessAndEq a b=_↔_
 unfold compareOfLessAndEq
 by_cases h:a<b
 ·simp[h];omega
 ·by_cases h2:a=b <;> simp[h,h2];omega
theorem TR [h:Bd e x] (he:e≤1000:=by decide):fne x x=false:=by
 obtain⟨s,m,p,h1,_⟩:=h.bd he
 unfold fne;rw[JZ h1 h1,RG];rfl
theorem RH {s:Bool} {m a:Nat}:Ieee.signed s m a≤((m <<< a:Nat):Int):=by
 unfold Ieee.signed;cases s
 ·exact Int.le_refl _
 ·have:=Int.natCast_nonneg (m <<< a)
  show -((m <<< a:Nat):Int)≤_
  generalize ((m <<< a:Nat):Int)=z at this ⊢
  omega
theorem TS [h:Bd e x] {n:Nat} {j:Int} (hy:DD.read y=.number false n j) (hn:n≠0) (hj:(e:Int)<n.log2+j) (he:e≤1000):fge x y=false:=by
 obtain⟨s,m,i,h1,h2⟩:=h.bd he
 have hlt:Ieee.signed s m (i-min i j).toNat<Ieee.signed false n (j-min i j).toNat:=by
  refine Int.lt_of_le_of_lt RH ?_
  rw[Q1]
  refine Int.ofNat_lt.2 ?_
  have q1:2 ^ (n.log2+(j-min i j).toNat)≤n <<< (j-min i j).toNat:=by
   rw[Nat.shiftLeft_eq,Nat.pow_add];exact Nat.mul_le_mul_right _ (Nat.log2_self_le hn)
  refine Nat.lt_of_lt_of_le ?_ q1
  by_cases hz:0≤(e:Int)-min i j
  ·have c:=H8 (m:=m) (i:=i) (b:=min i j) (K:=((e:Int)-min i j).toNat) (h2.mono (by omega)) (by omega)
   exact Nat.lt_of_le_of_lt c (Nat.pow_lt_pow_right (by decide) (by omega))
  ·have m0:m=0:=by unfold Lw at h2;omega
   rw[m0,Nat.zero_shiftLeft];exact Nat.two_pow_pos _
 unfold fge;rw[JZ h1 hy,LO.2 hlt];rfl
theorem P8 [h:Bd e x] (he:e<29:=by decide):fge x 4737786807993761792=false:=by
 refine TS (n:=4503599627370496) (j:=-23) rfl (by decide) ?_ (by omega)
 rw[show Nat.log2 4503599627370496=52 from Vf (by decide) (by decide)];omega
theorem P9 [h:Bd e x] (he:e≤1000:=by decide):fgt x 9218868437227405311=false:=by
 have g:fge x 9218868437227405311=false:=by
  refine TS (n:=9007199254740991) (j:=971) rfl (by decide) ?_ he
  rw[show Nat.log2 9007199254740991=52 from Vf (by decide) (by decide)];omega
 unfold fge at g;unfold fgt
 exact(Bool.or_eq_false_iff.1 g).1
theorem MK:DD.read 0=.number false 0 (-1074):=rfl
theorem HA (a:Nat):Ieee.signed false 0 a=0:=by unfold Ieee.signed;rw[Nat.zero_shiftLeft];rfl
theorem OB [h:Po e x] (he:e≤1000:=by decide):flt x 0=false:=by
 obtain⟨m,p,h1,_⟩:=h.po he
 unfold flt;rw[JZ h1 MK,HA,Q1]
 have:¬ compare ((m <<< (p-min p (-1074)).toNat:Nat):Int) 0=Ordering.lt:=by
  rw[LO];exact Int.not_lt.2 (Int.natCast_nonneg _)
 generalize compare ((m <<< (p-min p (-1074)).toNat:Nat):Int) 0=c at this
 cases c
 ·exact absurd rfl this
 ·rfl
 ·rfl
theorem TT [h:Bd e x] (hg:fgt x 0=true):Po e x:=⟨fun he=>by
 obtain⟨s,m,p,h1,h2⟩:=h.bd he
 unfold fgt at hg;rw[JZ h1 MK,HA] at hg
 have:compare (Ieee.signed s m (p-min p (-1074)).toNat) 0=Ordering.gt:=by
  generalize compare (Ieee.signed s m (p-min p (-1074)).toNat) 0=c at hg
  cases c
  ·cases hg
  ·cases hg
  ·rfl
 rw[WJ] at this
 cases s
 ·exact⟨m,p,h1,h2⟩
 ·exfalso
  have e1:Ieee.signed true m (p-min p (-1074)).toNat=-((m <<< (p-min p (-1074)).toNat:Nat):Int):=rfl
  rw[e1] at this
  have:=Int.natCast_nonneg (m <<< (p-min p (-1074)).toNat)
  generalize ((m <<< (p-min p (-1074)).toNat:Nat):Int)=z at *
  omega⟩
theorem RI [h:Bd e x] (hz:feq x 0=false) (hg:fgt x 0=false):Po e (U5 x):=⟨fun he=>by
 obtain⟨s,m,p,h1,h2⟩:=h.bd he
 cases s
 ·exfalso
  unfold feq at hz;unfold fgt at hg
  rw[JZ h1 MK,HA,Q1] at hz hg
  have n1:=Int.natCast_nonneg (m <<< (p-min p (-1074)).toNat)
  generalize ((m <<< (p-min p (-1074)).toNat:Nat):Int)=z at *
  rcases Int.lt_trichotomy 0 z with c|c|c
  ·rw[WJ.2 c] at hg;cases hg
  ·subst c;cases hz
  ·omega
 ·exact⟨m,p,by rw[BB,h1];rfl,h2⟩⟩
theorem Nx [h:Bd e x] [hy:Pg f y] (hf:f≤1000) (hg:fgt x y=true):Pg e x:=⟨fun he=>by
 obtain⟨s,m,i,h1,h2⟩:=h.bd he
 obtain⟨n,j,k1,k2,k3,k4⟩:=hy.pg hf
 unfold fgt at hg;rw[JZ h1 k1,Q1] at hg
 have:compare (Ieee.signed s m (i-min i j).toNat) ((n <<< (j-min i j).toNat:Nat):Int)=Ordering.gt:=by
  generalize compare (Ieee.signed s m (i-min i j).toNat) ((n <<< (j-min i j).toNat:Nat):Int)=c at hg
  cases c
  ·cases hg
  ·cases hg
  ·rfl
 rw[WJ] at this
 have q1:2 ^ (n.log2+(j-min i j).toNat)≤n <<< (j-min i j).toNat:=by
  rw[Nat.shiftLeft_eq,Nat.pow_add];exact Nat.mul_le_mul_right _ (Nat.log2_self_le k3)
 cases s
 ·rw[Q1] at this
  have t2:=Int.ofNat_lt.1 this
  have m0:m≠0:=by
   intro hm;rw[hm,Nat.zero_shiftLeft] at t2;exact Nat.not_lt_zero _ t2
  have a:m<2 ^ (m.log2+1):=Nat.lt_log2_self
  have c:=Nat.mul_lt_mul_of_pos_right a (Nat.two_pow_pos (i-min i j).toNat)
  rw[← Nat.pow_add,← Nat.shiftLeft_eq] at c
  have d:2 ^ (n.log2+(j-min i j).toNat)<2 ^ (m.log2+1+(i-min i j).toNat):=Nat.lt_of_le_of_lt q1 (Nat.lt_trans t2 c)
  have d2:=(Nat.pow_lt_pow_iff_right (by decide:1<2)).1 d
  exact⟨m,i,h1,h2,m0,by omega⟩
 ·exfalso
  have e1:Ieee.signed true m (i-min i j).toNat=-((m <<< (i-min i j).toNat:Nat):Int):=rfl
  rw[e1] at this
  have n1:=Int.natCast_nonneg (m <<< (i-min i j).toNat)
  have n2:=Int.natCast_nonneg (n <<< (j-min i j).toNat)
  generalize ((m <<< (i-min i j).toNat:Nat):Int)=z at *
  generalize ((n <<< (j-min i j).toNat:Nat):Int)=z2 at *
  omega⟩
theorem RJ {m:Nat} {i b:Int} {K:Nat} (h:m <<< (i-b).toNat≤2 ^ K) (hi:b≤i):Lw m i (b+K):=by
 by_cases h0:m=0
 ·exact .inl h0
 rw[Nat.shiftLeft_eq] at h
 have a1:=Nat.mul_le_mul_right (2 ^ (i-b).toNat) (Nat.log2_self_le h0)
 rw[← Nat.pow_add] at a1
 have a2:=(Nat.pow_le_pow_iff_right (by decide:1<2)).1 (Nat.le_trans a1 h)
 by_cases h3:m.log2+(i-b).toNat=K
 ·refine .inr (.inr ⟨?_,by omega⟩)
  rw[← h3,Nat.pow_add] at h
  exact Nat.le_antisymm (Nat.le_of_mul_le_mul_right h (Nat.two_pow_pos _)) (Nat.log2_self_le h0)
 ·exact .inr (.inl (by omega))
theorem BC [h:Po e x] [hy:Po f y] (hg:fgt x y=false) (he:e≤1000:=by decide):Po f x:=⟨fun hf=>by
 obtain⟨m,i,h1,h2⟩:=h.po he
 obtain⟨n,j,k1,k2⟩:=hy.po hf
 unfold fgt at hg;rw[JZ h1 k1,Q1,Q1] at hg
 have hc:¬ compare ((m <<< (i-min i j).toNat:Nat):Int) ((n <<< (j-min i j).toNat:Nat):Int)=Ordering.gt:=by
  intro hc;rw[hc] at hg;cases hg
 rw[WJ] at hc
 have hle:m <<< (i-min i j).toNat≤n <<< (j-min i j).toNat:=Int.ofNat_le.1 (Int.not_lt.1 hc)
 refine⟨m,i,h1,?_⟩
 by_cases hz:0≤(f:Int)-min i j
 ·have c:=H8 (m:=n) (i:=j) (b:=min i j) (K:=((f:Int)-min i j).toNat) (k2.mono (by omega)) (by omega)
  exact(RJ (Nat.le_trans hle c) (by omega)).mono (by omega)
 ·have n0:n=0:=by unfold Lw at k2;omega
  rw[n0,Nat.zero_shiftLeft,Nat.shiftLeft_eq] at hle
  have p1:=Nat.two_pow_pos (i-min i j).toNat
  rcases Nat.eq_zero_or_pos m with hm|hm
  ·exact .inl hm
  ·have:=Nat.mul_pos hm p1;omega⟩
theorem PC (h:fle x y=true):fgt x y=false:=by
 unfold fle at h;unfold fgt
 generalize fcm x y=c at h
 rcases c with _|_|_|_ <;> first|rfl|cases h
theorem Ny (h:Bd e x) (hf:e≤f:=by decide):Bd f x:=⟨fun he=>by obtain⟨s,m,p,h1,h2⟩:=h.bd (by omega);exact⟨s,m,p,h1,h2.mono (by omega)⟩⟩
theorem TU (h:Po e x) (hf:e≤f:=by decide):Po f x:=⟨fun he=>by obtain⟨m,p,h1,h2⟩:=h.po (by omega);exact⟨m,p,h1,h2.mono (by omega)⟩⟩
theorem ZW [h:Bd e x] (hr:x=y):Bd e y:=hr ▸ h
theorem ZY [h:Po e x] (hr:x=y):Po e y:=hr ▸ h
theorem XE [h:Bd e x] (hf:e≤f:=by decide):Bd f x:=Ny h hf
theorem DG [h:Po e x] (hf:e≤f:=by decide):Po f x:=TU h hf
def IsI (y:Nat):Prop:=∃ n:Int,n.natAbs<2 ^ 21∧y=dbl n
theorem XY (h:IsI y):Bd 21 y:=by obtain⟨n,h1,rfl⟩:=h;exact O7 21 h1
theorem VH (h:IsI y):y<18446744073709551616:=by obtain⟨n,h1,rfl⟩:=h;exact Go.Sky.dbl_lt n
theorem OC {n:Int} (h:feq (dbl n) 0=false):n≠0:=by
 intro h0;subst h0;cases h
theorem TV (h:IsI y) (h0:feq y 0=false):Ge 21 y:=by obtain⟨n,h1,rfl⟩:=h;exact O8 21 h1 (OC h0)
theorem TW (hxy:x%9223372036854775808=y%9223372036854775808) [h:Bd e y]:Bd e x:=⟨fun he=>by
 obtain⟨s,m,p,h1,h2⟩:=h.bd he
 rw[DF] at h1 ⊢
 rw[show x%DD.signWeight=y%DD.signWeight from hxy]
 have hs:=TP h1
 subst hs
 exact⟨_,m,p,P7 h1 _,h2⟩⟩
end
def ML (w:World) (g:Nat) (zs:List Nat):Prop:=g<w.heap.size∧∀ i z,zs[i]?=some z→w.cell? ⟨g,i,none⟩=some (.float .f64 z)
theorem DI {b:Nat}:¬ Xj [] b:=by rintro⟨_,h,_⟩;cases h
theorem ML.sat {w0 w:World} {D:Nat→Prop} {M:Mem} {g:Nat} {zs:List Nat} (h:ML w0 g zs) (hM:Sat ⟨w0,D⟩ M w) (hD:¬ D g:=by first|exact(fun h=>h)|exact DI):ML w g zs:=by
 refine⟨Nat.lt_of_lt_of_le h.1 hM.chg.size,fun i z hz=>?_⟩
 have:=h.2 i z hz
 unfold World.cell? at this ⊢
 rw[show w.heap[(⟨g,i,none⟩:Addr).block]?=w0.heap[(⟨g,i,none⟩:Addr).block]? from hM.chg.block g h.1 hD]
 exact this
theorem X2 {P:Program} {w:World} {T g i z:Nat} {zs:List Nat} (h:ML w g zs) (hz:zs[i]?=some z) (hT:Cj P T=true) :
  (sV (Instr.loadAt T (.pointer (some ⟨g,i,none⟩)))).run P w=.ok (.value (.float .f64 z)) w:=by
 have hR:Rd w 1 (some ⟨g,i,none⟩) [#[.float .f64 z]]:=⟨show 1<4611686018427387904 by decide,fun k r hk=>by
  cases k with
  | succ k=>cases hk
  | zero =>
   cases hk
   refine⟨rfl,_,rfl,h.1,fun j v hj=>?_⟩
   cases j with
   | succ j=>simp at hj
   | zero =>
    simp at hj;subst hj
    exact h.2 i z hz⟩
 exact Zs (off:=0) (i:=0) (.float .f64 z) hR rfl hT rfl
end Go.Eng
end
section
namespace Go.Sky
open Go Go.Eng Go.Proofs
def Jc (f:Nat):Bool :=
 fne f f
set_option maxRecDepth 100000 in
theorem VI (f:Nat) (w:World):Calls Tryz.prog 193 #[.float .f64 f] w (Ret w (.bool (Jc f))):=by
 exact Zk (vs:=[.float .f64 f]) (w:=w) Tryz.func193 rfl Tryz.ntmps193 rfl (TC.sr (TL.r 1 [] [(2,.b false)] {} (TL.nr (TL.r 4 [] [(2,.b (fne f f))] {} (TL.next rfl (TC.ret (TE.ret [] (.b (fne f f)) {} (by unfold Jc;refine eS (fun z=>(.b z:Value)) ?_;exact rfl))))))))
def KU (x:Nat):Nat :=
 (Qo .u64 (x:Int) 9223372036854775808).toNat
set_option maxRecDepth 100000 in
theorem MM (x:Nat) (w:World):Calls Tryz.prog 223 #[.float .f64 x] w (Ret w (.float .f64 (KU x))):=by
 exact Zk (vs:=[.float .f64 x]) (w:=w) Tryz.func223 rfl Tryz.ntmps223 rfl (TC.sr (TL.r 1 [] [(2,.float .f64 0)] {} (TL.nr (TL.r 1 [] [(3,.float .f64 x)] {} (TL.v (callFunc 134 #[.float .f64 x]) 4 (.int .u64 (x:Int)) (fun w hM=>K4 Tryz.func134 Kr Kr Kr Kr) {} (TL.r 3 [] [(5,.int .u64 (Qo .u64 (x:Int) 9223372036854775808))] {} (TL.v (callFunc 202 #[.int .u64 (Qo .u64 (x:Int) 9223372036854775808)]) 6 (.float .f64 ((Qo .u64 (x:Int) 9223372036854775808).toNat)) (fun w hM=>QA Tryz.func202 Kr Kr Kr Kr) {} (TL.r 5 [] [(2,.float .f64 ((Qo .u64 (x:Int) 9223372036854775808).toNat))] {} (TL.next rfl (TC.ret (TE.ret [] (.float .f64 ((Qo .u64 (x:Int) 9223372036854775808).toNat)) {} (by unfold KU;refine eS (fun z=>(.float .f64 z:Value)) ?_;exact rfl))))))))))))
theorem PD {f r:Nat} [h:Bd 21 f] (hl:f<18446744073709551616) (hr:KU f=r):fgt r 9218868437227405311=false:=by
 subst hr
 have e:KU f=f%9223372036854775808:=by
  unfold KU
  rw[Ww hl];rfl
 rw[e]
 have:=TW (x:=f%9223372036854775808) (y:=f) (e:=21) (Nat.mod_mod _ _)
 exact P9 (e:=21)
set_option maxRecDepth 100000 in
theorem VJ (f:Nat) (sign:Int) (w:World) (hM:Sat ⟨w,Xj []⟩ [] w) (hs:sign=0) (hb:Bd 21 f) (hl:f<18446744073709551616):Calls Tryz.prog 194 #[.float .f64 f,.int .i64 sign] w (QW (Γ:=Bool) ⟨w,Xj []⟩ (fun g=>.bool g) (fun g=>[.inr (XF (g=false))])):=by
 refine Yv (w0:=⟨w,Xj []⟩) (vs:=[.float .f64 f,.i sign]) hM Tryz.func194 rfl Tryz.ntmps194 rfl (TC.weak [(0,.float .f64 f),(1,.i sign)] Kr (TC.sr (TL.run 1 [] [(0,.float .f64 f),(1,.i sign)] rfl {} (TL.ns (TC.sr (TL.run 2 [] [(0,.float .f64 f),(1,.i sign),(6,.b (sign==0))] rfl {} (TL.next rfl (TC.cond (sign==0) rfl Kr (fun h1=>?_) (fun h1=>?_)))))))))
 ·refine TC.region (TL.run 1 [] [(7,.float .f64 f)] rfl {} (TL.call (some 8) [(8,.float .f64 (KU f))] (fun w _=>MM f w) Kr Kr ?_))
  generalize hr1:KU f=r1
  exact TL.run 3 [] [(0,.float .f64 r1)] rfl {} (TL.nr (TL.run 3 [] [(4,.b (fgt r1 9218868437227405311))] rfl {} (TL.next rfl (TC.ret (TE.retM (.inl rfl) (fgt r1 9218868437227405311) [] (.b (fgt r1 9218868437227405311)) {} rfl (fun _ hM=>(hM.sub (sb 0)).fact (by have q0_:=(Y7 h1);subst hr1;(try dsimp only);first|exact PD hl rfl)))))))
 ·exact((by subst hs;cases h1):False).elim
def KD (x:Nat):Bool :=
 decide ((w64 (x:Int))<0)
set_option maxRecDepth 100000 in
theorem HB (x:Nat) (w:World):Calls Tryz.prog 197 #[.float .f64 x] w (Ret w (.bool (KD x))):=by
 exact Zk (vs:=[.float .f64 x]) (w:=w) Tryz.func197 rfl Tryz.ntmps197 rfl (TC.sr (TL.r 1 [] [(2,.b false)] {} (TL.nr (TL.r 1 [] [(3,.float .f64 x)] {} (TL.v (callFunc 134 #[.float .f64 x]) 4 (.int .u64 (x:Int)) (fun w hM=>K4 Tryz.func134 Kr Kr Kr Kr) {} (TL.r 5 [] [(2,.b (decide ((w64 (x:Int))<0)))] {} (TL.next rfl (TC.ret (TE.ret [] (.b (decide ((w64 (x:Int))<0))) {} (by unfold KD;refine eS (fun z=>(.b z:Value)) ?_;exact rfl))))))))))
def YX (f:Nat) (sign:Nat):Nat :=
 (kor .u64 (Qo .u64 (f:Int) 9223372036854775808) (ZE .u64 (sign:Int) 9223372036854775808)).toNat
set_option maxRecDepth 100000 in
theorem J6 (f:Nat) (sign:Nat) (w:World):Calls Tryz.prog 198 #[.float .f64 f,.float .f64 sign] w (Ret w (.float .f64 (YX f sign))):=by
 exact Zk (vs:=[.float .f64 f,.float .f64 sign]) (w:=w) Tryz.func198 rfl Tryz.ntmps198 rfl (TC.sr (TL.r 1 [] [(4,.float .f64 0)] {} (TL.nr (TL.r 1 [] [(5,.float .f64 f)] {} (TL.v (callFunc 134 #[.float .f64 f]) 6 (.int .u64 (f:Int)) (fun w hM=>K4 Tryz.func134 Kr Kr Kr Kr) {} (TL.r 4 [] [(7,.int .u64 (Qo .u64 (f:Int) 9223372036854775808)),(8,.float .f64 sign)] {} (TL.v (callFunc 134 #[.float .f64 sign]) 9 (.int .u64 (sign:Int)) (fun w hM=>K4 Tryz.func134 Kr Kr Kr Kr) {} (TL.r 7 [] [(11,.int .u64 (kor .u64 (Qo .u64 (f:Int) 9223372036854775808) (ZE .u64 (sign:Int) 9223372036854775808)))] {} (TL.v (callFunc 202 #[.int .u64 (kor .u64 (Qo .u64 (f:Int) 9223372036854775808) (ZE .u64 (sign:Int) 9223372036854775808))]) 12 (.float .f64 ((kor .u64 (Qo .u64 (f:Int) 9223372036854775808) (ZE .u64 (sign:Int) 9223372036854775808)).toNat)) (fun w hM=>QA Tryz.func202 Kr Kr Kr Kr) {} (TL.r 9 [] [(4,.float .f64 ((kor .u64 (Qo .u64 (f:Int) 9223372036854775808) (ZE .u64 (sign:Int) 9223372036854775808)).toNat))] {} (TL.next rfl (TC.ret (TE.ret [] (.float .f64 ((kor .u64 (Qo .u64 (f:Int) 9223372036854775808) (ZE .u64 (sign:Int) 9223372036854775808)).toNat)) {} (by unfold YX;refine eS (fun z=>(.float .f64 z:Value)) ?_;exact rfl))))))))))))))
set_option maxRecDepth 100000 in
theorem VK (x:Nat) (w:World) (hM:Sat ⟨w,Xj []⟩ [] w) (hx:Bd 3 x):Calls Tryz.prog 242 #[.float .f64 x] w (QW (Γ:=Nat) ⟨w,Xj []⟩ (fun g=>.float .f64 g) (fun g=>[.inr (XF (Bd 40 g))])):=by
 refine Yv (w0:=⟨w,Xj []⟩) (vs:=[.float .f64 x]) hM Tryz.func242 rfl Tryz.ntmps242 rfl (TC.weak [(0,.float .f64 x)] Kr (TC.sr (TL.run 1 [] [(0,.float .f64 x)] rfl {} (TL.nr (TL.run 2 [] [(0,.float .f64 x),(4,.float .f64 x),(5,.float .f64 x)] rfl {} (TL.val (sV (binOp .mul 215 (.float .f64 x) (.float .f64 x))) (some 6) (.float .f64 (Zd x x)) [(0,.float .f64 x),(6,.float .f64 (Zd x x))] (fun w hM=>Yh (by (try have bz_:=ZY ‹Zd x x=_›);(try have bq_:=ZW ‹fdiv _ _=_›);exact fmS)) Kr Kr (TL.run 4 [] [(0,.float .f64 x),(3,.float .f64 (Zd x x))] rfl {} ?_)))))))
 generalize hr1:Zd x x=r1
 refine TL.nr (TL.run 2 [] [(0,.float .f64 x),(3,.float .f64 r1),(7,.float .f64 r1),(8,.float .f64 r1)] rfl {} (TL.val (sV (binOp .mul 215 (.float .f64 13829429103926125972) (.float .f64 r1))) (some 9) (.float .f64 (Zd 13829429103926125972 r1)) [(0,.float .f64 x),(3,.float .f64 r1),(7,.float .f64 r1),(9,.float .f64 (Zd 13829429103926125972 r1))] (fun w hM=>Yh (by (try have bz_:=ZY ‹Zd x x=_›);(try have bq_:=ZW ‹fdiv _ _=_›);exact fmS)) Kr Kr (TL.val (sV (binOp .add 215 (.float .f64 (Zd 13829429103926125972 r1)) (.float .f64 13848613196940411002))) (some 10) (.float .f64 (Zh (Zd 13829429103926125972 r1) 13848613196940411002)) [(0,.float .f64 x),(3,.float .f64 r1),(7,.float .f64 r1),(10,.float .f64 (Zh (Zd 13829429103926125972 r1) 13848613196940411002))] (fun w hM=>Y9 (by (try have bz_:=ZY ‹Zd x x=_›);(try have bq_:=ZW ‹fdiv _ _=_›);exact faS)) Kr Kr (TL.run 5 [] [(0,.float .f64 x),(3,.float .f64 r1),(7,.float .f64 r1),(10,.float .f64 (Zh (Zd 13829429103926125972 r1) 13848613196940411002)),(11,.float .f64 r1)] rfl {} (TL.val (sV (binOp .mul 215 (.float .f64 (Zh (Zd 13829429103926125972 r1) 13848613196940411002)) (.float .f64 r1))) (some 12) (.float .f64 (Zd (Zh (Zd 13829429103926125972 r1) 13848613196940411002) r1)) [(0,.float .f64 x),(3,.float .f64 r1),(7,.float .f64 r1),(12,.float .f64 (Zd (Zh (Zd 13829429103926125972 r1) 13848613196940411002) r1))] (fun w hM=>Yh (by (try have bz_:=ZY ‹Zd x x=_›);(try have bq_:=ZW ‹fdiv _ _=_›);exact fmS)) Kr Kr (TL.val (sV (binOp .add 215 (.float .f64 (Zd (Zh (Zd 13829429103926125972 r1) 13848613196940411002) r1)) (.float .f64 13858350711815275123))) (some 13) (.float .f64 (Zh (Zd (Zh (Zd 13829429103926125972 r1) 13848613196940411002) r1) 13858350711815275123)) [(0,.float .f64 x),(3,.float .f64 r1),(7,.float .f64 r1),(13,.float .f64 (Zh (Zd (Zh (Zd 13829429103926125972 r1) 13848613196940411002) r1) 13858350711815275123))] (fun w hM=>Y9 (by (try have bz_:=ZY ‹Zd x x=_›);(try have bq_:=ZW ‹fdiv _ _=_›);exact faS)) Kr Kr (TL.run 8 [] [(0,.float .f64 x),(3,.float .f64 r1),(7,.float .f64 r1),(13,.float .f64 (Zh (Zd (Zh (Zd 13829429103926125972 r1) 13848613196940411002) r1) 13858350711815275123)),(14,.float .f64 r1)] rfl {} (TL.val (sV (binOp .mul 215 (.float .f64 (Zh (Zd (Zh (Zd 13829429103926125972 r1) 13848613196940411002) r1) 13858350711815275123)) (.float .f64 r1))) (some 15) (.float .f64 (Zd (Zh (Zd (Zh (Zd 13829429103926125972 r1) 13848613196940411002) r1) 13858350711815275123) r1)) [(0,.float .f64 x),(3,.float .f64 r1),(7,.float .f64 r1),(15,.float .f64 (Zd (Zh (Zd (Zh (Zd 13829429103926125972 r1) 13848613196940411002) r1) 13858350711815275123) r1))] (fun w hM=>Yh (by (try have bz_:=ZY ‹Zd x x=_›);(try have bq_:=ZW ‹fdiv _ _=_›);exact fmS)) Kr Kr (TL.val (sV (binOp .add 215 (.float .f64 (Zd (Zh (Zd (Zh (Zd 13829429103926125972 r1) 13848613196940411002) r1) 13858350711815275123) r1)) (.float .f64 13861719834326579749))) (some 16) (.float .f64 (Zh (Zd (Zh (Zd (Zh (Zd 13829429103926125972 r1) 13848613196940411002) r1) 13858350711815275123) r1) 13861719834326579749)) [(0,.float .f64 x),(3,.float .f64 r1),(7,.float .f64 r1),(16,.float .f64 (Zh (Zd (Zh (Zd (Zh (Zd 13829429103926125972 r1) 13848613196940411002) r1) 13858350711815275123) r1) 13861719834326579749))] (fun w hM=>Y9 (by (try have bz_:=ZY ‹Zd x x=_›);(try have bq_:=ZW ‹fdiv _ _=_›);exact faS)) Kr Kr (TL.run 11 [] [(0,.float .f64 x),(3,.float .f64 r1),(7,.float .f64 r1),(16,.float .f64 (Zh (Zd (Zh (Zd (Zh (Zd 13829429103926125972 r1) 13848613196940411002) r1) 13858350711815275123) r1) 13861719834326579749)),(17,.float .f64 r1)] rfl {} (TL.val (sV (binOp .mul 215 (.float .f64 (Zh (Zd (Zh (Zd (Zh (Zd 13829429103926125972 r1) 13848613196940411002) r1) 13858350711815275123) r1) 13861719834326579749)) (.float .f64 r1))) (some 18) (.float .f64 (Zd (Zh (Zd (Zh (Zd (Zh (Zd 13829429103926125972 r1) 13848613196940411002) r1) 13858350711815275123) r1) 13861719834326579749) r1)) [(0,.float .f64 x),(3,.float .f64 r1),(7,.float .f64 r1),(18,.float .f64 (Zd (Zh (Zd (Zh (Zd (Zh (Zd 13829429103926125972 r1) 13848613196940411002) r1) 13858350711815275123) r1) 13861719834326579749) r1))] (fun w hM=>Yh (by (try have bz_:=ZY ‹Zd x x=_›);(try have bq_:=ZW ‹fdiv _ _=_›);exact fmS)) Kr Kr (TL.val (sV (binOp .add 215 (.float .f64 (Zd (Zh (Zd (Zh (Zd (Zh (Zd 13829429103926125972 r1) 13848613196940411002) r1) 13858350711815275123) r1) 13861719834326579749) r1)) (.float .f64 13857635882265799822))) (some 19) (.float .f64 (Zh (Zd (Zh (Zd (Zh (Zd (Zh (Zd 13829429103926125972 r1) 13848613196940411002) r1) 13858350711815275123) r1) 13861719834326579749) r1) 13857635882265799822)) [(0,.float .f64 x),(3,.float .f64 r1),(7,.float .f64 r1),(19,.float .f64 (Zh (Zd (Zh (Zd (Zh (Zd (Zh (Zd 13829429103926125972 r1) 13848613196940411002) r1) 13858350711815275123) r1) 13861719834326579749) r1) 13857635882265799822))] (fun w hM=>Y9 (by (try have bz_:=ZY ‹Zd x x=_›);(try have bq_:=ZW ‹fdiv _ _=_›);exact faS)) Kr Kr (TL.val (sV (binOp .mul 215 (.float .f64 r1) (.float .f64 (Zh (Zd (Zh (Zd (Zh (Zd (Zh (Zd 13829429103926125972 r1) 13848613196940411002) r1) 13858350711815275123) r1) 13861719834326579749) r1) 13857635882265799822)))) (some 20) (.float .f64 (Zd r1 (Zh (Zd (Zh (Zd (Zh (Zd (Zh (Zd 13829429103926125972 r1) 13848613196940411002) r1) 13858350711815275123) r1) 13861719834326579749) r1) 13857635882265799822))) [(0,.float .f64 x),(3,.float .f64 r1),(20,.float .f64 (Zd r1 (Zh (Zd (Zh (Zd (Zh (Zd (Zh (Zd 13829429103926125972 r1) 13848613196940411002) r1) 13858350711815275123) r1) 13861719834326579749) r1) 13857635882265799822)))] (fun w hM=>Yh (by (try have bz_:=ZY ‹Zd x x=_›);(try have bq_:=ZW ‹fdiv _ _=_›);exact fmS)) Kr Kr (TL.run 15 [] [(0,.float .f64 x),(3,.float .f64 r1),(20,.float .f64 (Zd r1 (Zh (Zd (Zh (Zd (Zh (Zd (Zh (Zd 13829429103926125972 r1) 13848613196940411002) r1) 13858350711815275123) r1) 13861719834326579749) r1) 13857635882265799822))),(21,.float .f64 r1)] rfl {} (TL.val (sV (binOp .add 215 (.float .f64 r1) (.float .f64 4627690253511319612))) (some 22) (.float .f64 (Zh r1 4627690253511319612)) [(0,.float .f64 x),(3,.float .f64 r1),(20,.float .f64 (Zd r1 (Zh (Zd (Zh (Zd (Zh (Zd (Zh (Zd 13829429103926125972 r1) 13848613196940411002) r1) 13858350711815275123) r1) 13861719834326579749) r1) 13857635882265799822))),(22,.float .f64 (Zh r1 4627690253511319612))] (fun w hM=>Y9 (by (try have bz_:=ZY ‹Zd x x=_›);(try have bq_:=ZW ‹fdiv _ _=_›);exact faS)) Kr Kr (TL.run 17 [] [(0,.float .f64 x),(3,.float .f64 r1),(20,.float .f64 (Zd r1 (Zh (Zd (Zh (Zd (Zh (Zd (Zh (Zd 13829429103926125972 r1) 13848613196940411002) r1) 13858350711815275123) r1) 13861719834326579749) r1) 13857635882265799822))),(22,.float .f64 (Zh r1 4627690253511319612)),(23,.float .f64 r1)] rfl {} (TL.val (sV (binOp .mul 215 (.float .f64 (Zh r1 4627690253511319612)) (.float .f64 r1))) (some 24) (.float .f64 (Zd (Zh r1 4627690253511319612) r1)) [(0,.float .f64 x),(3,.float .f64 r1),(20,.float .f64 (Zd r1 (Zh (Zd (Zh (Zd (Zh (Zd (Zh (Zd 13829429103926125972 r1) 13848613196940411002) r1) 13858350711815275123) r1) 13861719834326579749) r1) 13857635882265799822))),(24,.float .f64 (Zd (Zh r1 4627690253511319612) r1))] (fun w hM=>Yh (by (try have bz_:=ZY ‹Zd x x=_›);(try have bq_:=ZW ‹fdiv _ _=_›);exact fmS)) Kr Kr (TL.val (sV (binOp .add 215 (.float .f64 (Zd (Zh r1 4627690253511319612) r1)) (.float .f64 4640010388282866213))) (some 25) (.float .f64 (Zh (Zd (Zh r1 4627690253511319612) r1) 4640010388282866213)) [(0,.float .f64 x),(3,.float .f64 r1),(20,.float .f64 (Zd r1 (Zh (Zd (Zh (Zd (Zh (Zd (Zh (Zd 13829429103926125972 r1) 13848613196940411002) r1) 13858350711815275123) r1) 13861719834326579749) r1) 13857635882265799822))),(25,.float .f64 (Zh (Zd (Zh r1 4627690253511319612) r1) 4640010388282866213))] (fun w hM=>Y9 (by (try have bz_:=ZY ‹Zd x x=_›);(try have bq_:=ZW ‹fdiv _ _=_›);exact faS)) Kr Kr (TL.run 20 [] [(0,.float .f64 x),(3,.float .f64 r1),(20,.float .f64 (Zd r1 (Zh (Zd (Zh (Zd (Zh (Zd (Zh (Zd 13829429103926125972 r1) 13848613196940411002) r1) 13858350711815275123) r1) 13861719834326579749) r1) 13857635882265799822))),(25,.float .f64 (Zh (Zd (Zh r1 4627690253511319612) r1) 4640010388282866213)),(26,.float .f64 r1)] rfl {} (TL.val (sV (binOp .mul 215 (.float .f64 (Zh (Zd (Zh r1 4627690253511319612) r1) 4640010388282866213)) (.float .f64 r1))) (some 27) (.float .f64 (Zd (Zh (Zd (Zh r1 4627690253511319612) r1) 4640010388282866213) r1)) [(0,.float .f64 x),(3,.float .f64 r1),(20,.float .f64 (Zd r1 (Zh (Zd (Zh (Zd (Zh (Zd (Zh (Zd 13829429103926125972 r1) 13848613196940411002) r1) 13858350711815275123) r1) 13861719834326579749) r1) 13857635882265799822))),(27,.float .f64 (Zd (Zh (Zd (Zh r1 4627690253511319612) r1) 4640010388282866213) r1))] (fun w hM=>Yh (by (try have bz_:=ZY ‹Zd x x=_›);(try have bq_:=ZW ‹fdiv _ _=_›);exact fmS)) Kr Kr (TL.val (sV (binOp .add 215 (.float .f64 (Zd (Zh (Zd (Zh r1 4627690253511319612) r1) 4640010388282866213) r1)) (.float .f64 4646322940342877755))) (some 28) (.float .f64 (Zh (Zd (Zh (Zd (Zh r1 4627690253511319612) r1) 4640010388282866213) r1) 4646322940342877755)) [(0,.float .f64 x),(3,.float .f64 r1),(20,.float .f64 (Zd r1 (Zh (Zd (Zh (Zd (Zh (Zd (Zh (Zd 13829429103926125972 r1) 13848613196940411002) r1) 13858350711815275123) r1) 13861719834326579749) r1) 13857635882265799822))),(28,.float .f64 (Zh (Zd (Zh (Zd (Zh r1 4627690253511319612) r1) 4640010388282866213) r1) 4646322940342877755))] (fun w hM=>Y9 (by (try have bz_:=ZY ‹Zd x x=_›);(try have bq_:=ZW ‹fdiv _ _=_›);exact faS)) Kr Kr (TL.run 23 [] [(0,.float .f64 x),(3,.float .f64 r1),(20,.float .f64 (Zd r1 (Zh (Zd (Zh (Zd (Zh (Zd (Zh (Zd 13829429103926125972 r1) 13848613196940411002) r1) 13858350711815275123) r1) 13861719834326579749) r1) 13857635882265799822))),(28,.float .f64 (Zh (Zd (Zh (Zd (Zh r1 4627690253511319612) r1) 4640010388282866213) r1) 4646322940342877755)),(29,.float .f64 r1)] rfl {} (TL.val (sV (binOp .mul 215 (.float .f64 (Zh (Zd (Zh (Zd (Zh r1 4627690253511319612) r1) 4640010388282866213) r1) 4646322940342877755)) (.float .f64 r1))) (some 30) (.float .f64 (Zd (Zh (Zd (Zh (Zd (Zh r1 4627690253511319612) r1) 4640010388282866213) r1) 4646322940342877755) r1)) [(0,.float .f64 x),(3,.float .f64 r1),(20,.float .f64 (Zd r1 (Zh (Zd (Zh (Zd (Zh (Zd (Zh (Zd 13829429103926125972 r1) 13848613196940411002) r1) 13858350711815275123) r1) 13861719834326579749) r1) 13857635882265799822))),(30,.float .f64 (Zd (Zh (Zd (Zh (Zd (Zh r1 4627690253511319612) r1) 4640010388282866213) r1) 4646322940342877755) r1))] (fun w hM=>Yh (by (try have bz_:=ZY ‹Zd x x=_›);(try have bq_:=ZW ‹fdiv _ _=_›);exact fmS)) Kr Kr (TL.val (sV (binOp .add 215 (.float .f64 (Zd (Zh (Zd (Zh (Zd (Zh r1 4627690253511319612) r1) 4640010388282866213) r1) 4646322940342877755) r1)) (.float .f64 4647246694406179306))) (some 31) (.float .f64 (Zh (Zd (Zh (Zd (Zh (Zd (Zh r1 4627690253511319612) r1) 4640010388282866213) r1) 4646322940342877755) r1) 4647246694406179306)) [(0,.float .f64 x),(3,.float .f64 r1),(20,.float .f64 (Zd r1 (Zh (Zd (Zh (Zd (Zh (Zd (Zh (Zd 13829429103926125972 r1) 13848613196940411002) r1) 13858350711815275123) r1) 13861719834326579749) r1) 13857635882265799822))),(31,.float .f64 (Zh (Zd (Zh (Zd (Zh (Zd (Zh r1 4627690253511319612) r1) 4640010388282866213) r1) 4646322940342877755) r1) 4647246694406179306))] (fun w hM=>Y9 (by (try have bz_:=ZY ‹Zd x x=_›);(try have bq_:=ZW ‹fdiv _ _=_›);exact faS)) Kr Kr (TL.run 26 [] [(0,.float .f64 x),(20,.float .f64 (Zd r1 (Zh (Zd (Zh (Zd (Zh (Zd (Zh (Zd 13829429103926125972 r1) 13848613196940411002) r1) 13858350711815275123) r1) 13861719834326579749) r1) 13857635882265799822))),(31,.float .f64 (Zh (Zd (Zh (Zd (Zh (Zd (Zh r1 4627690253511319612) r1) 4640010388282866213) r1) 4646322940342877755) r1) 4647246694406179306)),(32,.float .f64 r1)] rfl {} (TL.val (sV (binOp .mul 215 (.float .f64 (Zh (Zd (Zh (Zd (Zh (Zd (Zh r1 4627690253511319612) r1) 4640010388282866213) r1) 4646322940342877755) r1) 4647246694406179306)) (.float .f64 r1))) (some 33) (.float .f64 (Zd (Zh (Zd (Zh (Zd (Zh (Zd (Zh r1 4627690253511319612) r1) 4640010388282866213) r1) 4646322940342877755) r1) 4647246694406179306) r1)) [(0,.float .f64 x),(20,.float .f64 (Zd r1 (Zh (Zd (Zh (Zd (Zh (Zd (Zh (Zd 13829429103926125972 r1) 13848613196940411002) r1) 13858350711815275123) r1) 13861719834326579749) r1) 13857635882265799822))),(33,.float .f64 (Zd (Zh (Zd (Zh (Zd (Zh (Zd (Zh r1 4627690253511319612) r1) 4640010388282866213) r1) 4646322940342877755) r1) 4647246694406179306) r1))] (fun w hM=>Yh (by (try have bz_:=ZY ‹Zd x x=_›);(try have bq_:=ZW ‹fdiv _ _=_›);exact fmS)) Kr Kr (TL.val (sV (binOp .add 215 (.float .f64 (Zd (Zh (Zd (Zh (Zd (Zh (Zd (Zh r1 4627690253511319612) r1) 4640010388282866213) r1) 4646322940342877755) r1) 4647246694406179306) r1)) (.float .f64 4641049159275471596))) (some 34) (.float .f64 (Zh (Zd (Zh (Zd (Zh (Zd (Zh (Zd (Zh r1 4627690253511319612) r1) 4640010388282866213) r1) 4646322940342877755) r1) 4647246694406179306) r1) 4641049159275471596)) [(0,.float .f64 x),(20,.float .f64 (Zd r1 (Zh (Zd (Zh (Zd (Zh (Zd (Zh (Zd 13829429103926125972 r1) 13848613196940411002) r1) 13858350711815275123) r1) 13861719834326579749) r1) 13857635882265799822))),(34,.float .f64 (Zh (Zd (Zh (Zd (Zh (Zd (Zh (Zd (Zh r1 4627690253511319612) r1) 4640010388282866213) r1) 4646322940342877755) r1) 4647246694406179306) r1) 4641049159275471596))] (fun w hM=>Y9 (by (try have bz_:=ZY ‹Zd x x=_›);(try have bq_:=ZW ‹fdiv _ _=_›);exact faS)) Kr Kr (TL.val (sV (binOp .quo 215 (.float .f64 (Zd r1 (Zh (Zd (Zh (Zd (Zh (Zd (Zh (Zd 13829429103926125972 r1) 13848613196940411002) r1) 13858350711815275123) r1) 13861719834326579749) r1) 13857635882265799822))) (.float .f64 (Zh (Zd (Zh (Zd (Zh (Zd (Zh (Zd (Zh r1 4627690253511319612) r1) 4640010388282866213) r1) 4646322940342877755) r1) 4647246694406179306) r1) 4641049159275471596)))) (some 35) (.float .f64 (fdiv (Zd r1 (Zh (Zd (Zh (Zd (Zh (Zd (Zh (Zd 13829429103926125972 r1) 13848613196940411002) r1) 13858350711815275123) r1) 13861719834326579749) r1) 13857635882265799822)) (Zh (Zd (Zh (Zd (Zh (Zd (Zh (Zd (Zh r1 4627690253511319612) r1) 4640010388282866213) r1) 4646322940342877755) r1) 4647246694406179306) r1) 4641049159275471596))) [(0,.float .f64 x),(35,.float .f64 (fdiv (Zd r1 (Zh (Zd (Zh (Zd (Zh (Zd (Zh (Zd 13829429103926125972 r1) 13848613196940411002) r1) 13858350711815275123) r1) 13861719834326579749) r1) 13857635882265799822)) (Zh (Zd (Zh (Zd (Zh (Zd (Zh (Zd (Zh r1 4627690253511319612) r1) 4640010388282866213) r1) 4646322940342877755) r1) 4647246694406179306) r1) 4641049159275471596)))] (fun w hM=>V0 (by (try have bz_:=ZY ‹Zd x x=_›);(try have bq_:=ZW ‹fdiv _ _=_›);exact fdS)) Kr Kr (TL.run 30 [] [(0,.float .f64 x),(3,.float .f64 (fdiv (Zd r1 (Zh (Zd (Zh (Zd (Zh (Zd (Zh (Zd 13829429103926125972 r1) 13848613196940411002) r1) 13858350711815275123) r1) 13861719834326579749) r1) 13857635882265799822)) (Zh (Zd (Zh (Zd (Zh (Zd (Zh (Zd (Zh r1 4627690253511319612) r1) 4640010388282866213) r1) 4646322940342877755) r1) 4647246694406179306) r1) 4641049159275471596)))] rfl {} ?_)))))))))))))))))))))))))))))
 generalize hr2:fdiv (Zd r1 (Zh (Zd (Zh (Zd (Zh (Zd (Zh (Zd 13829429103926125972 r1) 13848613196940411002) r1) 13858350711815275123) r1) 13861719834326579749) r1) 13857635882265799822)) (Zh (Zd (Zh (Zd (Zh (Zd (Zh (Zd (Zh r1 4627690253511319612) r1) 4640010388282866213) r1) 4646322940342877755) r1) 4647246694406179306) r1) 4641049159275471596)=r2
 refine TL.nr (TL.run 2 [] [(0,.float .f64 x),(36,.float .f64 x),(37,.float .f64 r2)] rfl {} (TL.val (sV (binOp .mul 215 (.float .f64 x) (.float .f64 r2))) (some 38) (.float .f64 (Zd x r2)) [(0,.float .f64 x),(38,.float .f64 (Zd x r2))] (fun w hM=>Yh (by (try have bz_:=ZY ‹Zd x x=_›);(try have bq_:=ZW ‹fdiv _ _=_›);exact fmS)) Kr Kr (TL.run 4 [] [(38,.float .f64 (Zd x r2)),(39,.float .f64 x)] rfl {} (TL.val (sV (binOp .add 215 (.float .f64 (Zd x r2)) (.float .f64 x))) (some 40) (.float .f64 (Zh (Zd x r2) x)) [(40,.float .f64 (Zh (Zd x r2) x))] (fun w hM=>Y9 (by (try have bz_:=ZY ‹Zd x x=_›);(try have bq_:=ZW ‹fdiv _ _=_›);exact faS)) Kr Kr (TL.run 6 [] [(3,.float .f64 (Zh (Zd x r2) x))] rfl {} ?_)))))
 generalize hr3:Zh (Zd x r2) x=r3
 exact TL.nr (TL.run 2 [] [(2,.float .f64 r3)] rfl {} (TL.next rfl (TC.ret (TE.retM (.inl rfl) r3 [] (.float .f64 r3) {} rfl (fun _ hM=>(hM.sub (sb 0)).fact (by (try have bz_:=ZY ‹Zd x x=_›);(try have bq_:=ZW ‹fdiv _ _=_›);subst hr1 hr2 hr3;(try dsimp only);first|exact(have b_:=ZW ‹Zh _ x=_›;Ny b_)|exact XE))))))
set_option maxRecDepth 100000 in
theorem G1 (x:Nat) (w:World) (hM:Sat ⟨w,Xj []⟩ [] w) (hx:Po 25 x):Calls Tryz.prog 237 #[.float .f64 x] w (QW (Γ:=Nat) ⟨w,Xj []⟩ (fun g=>.float .f64 g) (fun g=>[.inr (XF (Bd 44 g))])):=by
 refine Yv (w0:=⟨w,Xj []⟩) (vs:=[.float .f64 x]) hM Tryz.func237 rfl Tryz.ntmps237 rfl (TC.weak [(0,.float .f64 x)] Kr (TC.sr (TL.run 1 [] [(0,.float .f64 x)] rfl {} (TL.ns (TC.sr (TL.run 2 [] [(0,.float .f64 x),(4,.b (fle x 4604119971053405471))] rfl {} (TL.next rfl (TC.cond (fle x 4604119971053405471) rfl Kr (fun h1=>?_) (fun h1=>?_)))))))))
 ·refine TC.sr (TL.run 1 [] [(5,.float .f64 x)] rfl {} (TL.callM (Γ:=Nat) (fun g=>.float .f64 g) (fun g=>[.inr (XF (Bd 40 g))]) [] [] (some 6) (fun g=>[(6,.float .f64 g)]) (fun w hM=>VK x w hM.pass (by have i_:=BC (e:=25) (PC h1);exact XE)) Kr (fun g=>Kr) ?_))
  rintro r_
  exact TL.conv [.inr (XF (Bd 40 r_))] (fun _ hM=>hM) (TL.know (fun w hM=>hM.fact_at 0 rfl) (fun hp_math_xatan=>TL.forget [] (.cons _ (List.Sublist.refl _)) (TL.run 3 [] [(2,.float .f64 r_)] rfl {} (TL.next rfl (TC.ret (TE.rt (TE.retM (.inl rfl) r_ [] (.float .f64 r_) {} rfl (fun _ hM=>(hM.sub (sb 0)).fact (by (try have bq_:=‹Bd 40 _›);(try dsimp only);first|exact XE)))))))))
 ·refine TC.sn (TC.seq (TC.sr (TL.run 2 [] [(0,.float .f64 x),(8,.b (fgt x 4612618744449965542))] rfl {} (TL.next rfl (TC.cond (fgt x 4612618744449965542) rfl Kr (fun h2=>?_) (fun h2=>?_))))))
  ·refine TC.sr (TL.run 1 [] [(9,.float .f64 x)] rfl {} (TL.val (sV (binOp .quo 215 (.float .f64 4607182418800017408) (.float .f64 x))) (some 10) (.float .f64 (fdiv 4607182418800017408 x)) [(10,.float .f64 (fdiv 4607182418800017408 x))] (fun w hM=>V0 (by have i_:=Nx (e:=25) (by decide) h2;exact fdS)) Kr Kr (TL.callM (Γ:=Nat) (fun g=>.float .f64 g) (fun g=>[.inr (XF (Bd 40 g))]) [] [] (some 11) (fun g=>[(11,.float .f64 g)]) (fun w hM=>VK (fdiv 4607182418800017408 x) w hM.pass (by have i_:=Nx (e:=25) (by decide) h2;exact Ny TJ)) Kr (fun g=>Kr) ?_)))
   rintro r__2
   exact TL.conv [.inr (XF (Bd 40 r__2))] (fun _ hM=>hM) (TL.know (fun w hM=>hM.fact_at 0 rfl) (fun hp_math_xatan=>TL.forget [] (.cons _ (List.Sublist.refl _)) (TL.val (sV (binOp .sub 215 (.float .f64 4609753056924675352) (.float .f64 r__2))) (some 12) (.float .f64 (Ym 4609753056924675352 r__2)) [(12,.float .f64 (Ym 4609753056924675352 r__2))] (fun w hM=>KR (by (try have bq_:=‹Bd 40 _›);exact fsS)) Kr Kr (TL.val (sV (binOp .add 215 (.float .f64 (Ym 4609753056924675352 r__2)) (.float .f64 4364452196894661639))) (some 13) (.float .f64 (Zh (Ym 4609753056924675352 r__2) 4364452196894661639)) [(13,.float .f64 (Zh (Ym 4609753056924675352 r__2) 4364452196894661639))] (fun w hM=>Y9 (by (try have bq_:=‹Bd 40 _›);exact faS)) Kr Kr (TL.run 6 [] [(2,.float .f64 (Zh (Ym 4609753056924675352 r__2) 4364452196894661639))] rfl {} (TL.next rfl (TC.ret (TE.rt (TE.retM (.inl rfl) (Zh (Ym 4609753056924675352 r__2) 4364452196894661639) [] (.float .f64 (Zh (Ym 4609753056924675352 r__2) 4364452196894661639)) {} rfl (fun _ hM=>(hM.sub (sb 0)).fact (by (try have bq_:=‹Bd 40 _›);(try dsimp only);first|exact XE)))))))))))
  ·refine TC.snr (TL.run 1 [] [(0,.float .f64 x),(14,.float .f64 x)] rfl {} (TL.val (sV (binOp .sub 215 (.float .f64 x) (.float .f64 4607182418800017408))) (some 15) (.float .f64 (Ym x 4607182418800017408)) [(0,.float .f64 x),(15,.float .f64 (Ym x 4607182418800017408))] (fun w hM=>KR (by (try have bq_:=‹Bd 40 _›);exact fsS)) Kr Kr (TL.run 3 [] [(15,.float .f64 (Ym x 4607182418800017408)),(16,.float .f64 x)] rfl {} (TL.val (sV (binOp .add 215 (.float .f64 x) (.float .f64 4607182418800017408))) (some 17) (.float .f64 (Zh x 4607182418800017408)) [(15,.float .f64 (Ym x 4607182418800017408)),(17,.float .f64 (Zh x 4607182418800017408))] (fun w hM=>Y9 (by (try have bq_:=‹Bd 40 _›);exact faS)) Kr Kr (TL.val (sV (binOp .quo 215 (.float .f64 (Ym x 4607182418800017408)) (.float .f64 (Zh x 4607182418800017408)))) (some 18) (.float .f64 (fdiv (Ym x 4607182418800017408) (Zh x 4607182418800017408))) [(18,.float .f64 (fdiv (Ym x 4607182418800017408) (Zh x 4607182418800017408)))] (fun w hM=>V0 (by (try have bq_:=‹Bd 40 _›);exact fdS)) Kr Kr (TL.callM (Γ:=Nat) (fun g=>.float .f64 g) (fun g=>[.inr (XF (Bd 40 g))]) [] [] (some 19) (fun g=>[(19,.float .f64 g)]) (fun w hM=>VK (fdiv (Ym x 4607182418800017408) (Zh x 4607182418800017408)) w hM.pass (by have i_:=BC (e:=25) h2;exact Ny (TJ (e:=3)))) Kr (fun g=>Kr) ?_))))))
   rintro r__3
   exact TL.conv [.inr (XF (Bd 40 r__3))] (fun _ hM=>hM) (TL.know (fun w hM=>hM.fact_at 0 rfl) (fun hp_math_xatan=>TL.forget [] (.cons _ (List.Sublist.refl _)) (TL.val (sV (binOp .add 215 (.float .f64 4605249457297304856) (.float .f64 r__3))) (some 20) (.float .f64 (Zh 4605249457297304856 r__3)) [(20,.float .f64 (Zh 4605249457297304856 r__3))] (fun w hM=>Y9 (by (try have bq_:=‹Bd 40 _›);exact faS)) Kr Kr (TL.val (sV (binOp .add 215 (.float .f64 (Zh 4605249457297304856 r__3)) (.float .f64 4359948597267291143))) (some 21) (.float .f64 (Zh (Zh 4605249457297304856 r__3) 4359948597267291143)) [(21,.float .f64 (Zh (Zh 4605249457297304856 r__3) 4359948597267291143))] (fun w hM=>Y9 (by (try have bq_:=‹Bd 40 _›);exact faS)) Kr Kr (TL.run 9 [] [(2,.float .f64 (Zh (Zh 4605249457297304856 r__3) 4359948597267291143))] rfl {} (TL.next rfl (TC.ret (TE.retM (.inl rfl) (Zh (Zh 4605249457297304856 r__3) 4359948597267291143) [] (.float .f64 (Zh (Zh 4605249457297304856 r__3) 4359948597267291143)) {} rfl (fun _ hM=>(hM.sub (sb 0)).fact (by (try have bq_:=‹Bd 40 _›);(try dsimp only);first|exact XE))))))))))
set_option maxRecDepth 100000 in
theorem Nz (x:Nat) (w:World) (hM:Sat ⟨w,Xj []⟩ [] w) (hx:Bd 25 x):Calls Tryz.prog 226 #[.float .f64 x] w (QW (Γ:=Nat) ⟨w,Xj []⟩ (fun g=>.float .f64 g) (fun g=>[.inr (XF (Bd 44 g))])):=by
 refine Yv (w0:=⟨w,Xj []⟩) (vs:=[.float .f64 x]) hM Tryz.func226 rfl Tryz.ntmps226 rfl (TC.weak [(0,.float .f64 x)] Kr (TC.sr (TL.run 1 [] [(0,.float .f64 x)] rfl {} (TL.ns (TC.sr (TL.run 2 [] [(0,.float .f64 x),(4,.b (feq x 0))] rfl {} (TL.next rfl (TC.cond (feq x 0) rfl Kr (fun h1=>?_) (fun h1=>?_)))))))))
 ·exact TC.sr (TL.run 2 [] [(2,.float .f64 x)] rfl {} (TL.next rfl (TC.ret (TE.rt (TE.retM (.inl rfl) x [] (.float .f64 x) {} rfl (fun _ hM=>(hM.sub (sb 0)).fact (by (try have bq_:=‹Bd 44 _›);(try dsimp only);first|exact XE)))))))
 ·refine TC.sn (TC.seq (TC.sr (TL.run 2 [] [(0,.float .f64 x),(7,.b (fgt x 0))] rfl {} (TL.next rfl (TC.cond (fgt x 0) rfl Kr (fun h2=>?_) (fun h2=>?_))))))
  ·refine TC.sr (TL.run 1 [] [(8,.float .f64 x)] rfl {} (TL.callM (Γ:=Nat) (fun g=>.float .f64 g) (fun g=>[.inr (XF (Bd 44 g))]) [] [] (some 9) (fun g=>[(9,.float .f64 g)]) (fun w hM=>G1 x w hM.pass (TT h2)) Kr (fun g=>Kr) ?_))
   rintro r_
   exact TL.conv [.inr (XF (Bd 44 r_))] (fun _ hM=>hM) (TL.know (fun w hM=>hM.fact_at 0 rfl) (fun hp_math_satan=>TL.forget [] (.cons _ (List.Sublist.refl _)) (TL.run 3 [] [(2,.float .f64 r_)] rfl {} (TL.next rfl (TC.ret (TE.rt (TE.retM (.inl rfl) r_ [] (.float .f64 r_) {} rfl (fun _ hM=>(hM.sub (sb 0)).fact (by (try have bq_:=‹Bd 44 _›);(try dsimp only);first|exact XE)))))))))
  ·refine TC.snr (TL.run 2 [] [(11,.float .f64 (U5 x))] rfl {} (TL.callM (Γ:=Nat) (fun g=>.float .f64 g) (fun g=>[.inr (XF (Bd 44 g))]) [] [] (some 12) (fun g=>[(12,.float .f64 g)]) (fun w hM=>G1 (U5 x) w hM.pass (RI h1 h2)) Kr (fun g=>Kr) ?_))
   rintro r__2
   exact TL.conv [.inr (XF (Bd 44 r__2))] (fun _ hM=>hM) (TL.know (fun w hM=>hM.fact_at 0 rfl) (fun hp_math_satan=>TL.forget [] (.cons _ (List.Sublist.refl _)) (TL.run 5 [] [(2,.float .f64 (U5 r__2))] rfl {} (TL.next rfl (TC.ret (TE.retM (.inl rfl) (U5 r__2) [] (.float .f64 (U5 r__2)) {} rfl (fun _ hM=>(hM.sub (sb 0)).fact (by (try have bq_:=‹Bd 44 _›);(try dsimp only);first|exact XE))))))))
set_option maxRecDepth 100000 in
theorem N1 (x:Nat) (w:World) (hM:Sat ⟨w,Xj []⟩ [] w) (hx:Bd 25 x):Calls Tryz.prog 199 #[.float .f64 x] w (QW (Γ:=Nat) ⟨w,Xj []⟩ (fun g=>.float .f64 g) (fun g=>[.inr (XF (Bd 44 g))])):=by
 refine Yv (w0:=⟨w,Xj []⟩) (vs:=[.float .f64 x]) hM Tryz.func199 rfl Tryz.ntmps199 rfl (TC.weak [(0,.float .f64 x)] Kr (TC.sr (TL.run 1 [] [(0,.float .f64 x)] rfl {} (TL.ns (TC.condF rfl Kr (TC.snr (TL.run 1 [] [(5,.float .f64 x)] rfl {} (TL.callM (Γ:=Nat) (fun g=>.float .f64 g) (fun g=>[.inr (XF (Bd 44 g))]) [] [] (some 6) (fun g=>[(6,.float .f64 g)]) (fun w hM=>Nz x w hM.pass hx) Kr (fun g=>Kr) ?_))))))))
 rintro r_
 exact TL.conv [.inr (XF (Bd 44 r_))] (fun _ hM=>hM) (TL.know (fun w hM=>hM.fact_at 0 rfl) (fun hp_math_atan=>TL.forget [] (.cons _ (List.Sublist.refl _)) (TL.run 3 [] [(2,.float .f64 r_)] rfl {} (TL.next rfl (TC.ret (TE.retM (.inl rfl) r_ [] (.float .f64 r_) {} rfl (fun _ hM=>(hM.sub (sb 0)).fact (by (try dsimp only);first|exact hp_math_atan))))))))
theorem HC {e x:Nat} [h:Bd e x] (he:e≤1000:=by decide):Jc x=false:=TR he
theorem VL {c y e f:Nat} [h:Bd e c] (hc:c<18446744073709551616) (hy:y<18446744073709551616) (hf:e≤f:=by decide):Bd f (YX c y):=by
 have e1:∃ n:Nat,n%9223372036854775808=c%9223372036854775808∧YX c y=n:=by
  unfold YX
  rw[Ww hc]
  have f1:=RE (a:=y) (b:=9223372036854775808) hy (by decide)
  rw[show (((9223372036854775808:Nat)):Int)=9223372036854775808 from rfl] at f1
  have l1:y &&& 9223372036854775808=y/9223372036854775808*9223372036854775808:=by
   have hb:y/9223372036854775808<2:=by omega
   apply Nat.eq_of_testBit_eq
   intro i
   rw[show y/9223372036854775808*9223372036854775808=2 ^ 63*(y/2 ^ 63) from Nat.mul_comm _ _,show (9223372036854775808:Nat)=2 ^ 63 from rfl,Nat.testBit_and,Nat.testBit_two_pow,Nat.testBit_two_pow_mul,Nat.testBit_div_two_pow]
   rcases Nat.lt_trichotomy i 63 with h3|h3|h3
   ·simp[show ¬ 63=i by omega,show ¬ i≥63 by omega]
   ·subst h3;simp
   ·have h4:y.testBit i=false:=Nat.testBit_lt_two_pow (Nat.lt_of_lt_of_le hy (by have:=Nat.pow_le_pow_right (show 0<2 by decide) (show 64≤i by omega);exact this))
    simp[show i-63+63=i by omega,h4]
  rw[f1,TD (by omega) (by rw[l1];omega),l1]
  refine⟨c%9223372036854775808 ||| y/9223372036854775808*9223372036854775808,?_,Int.toNat_natCast _⟩
  rw[Nat.or_comm,Nat.mul_comm,show (9223372036854775808:Nat)=2 ^ 63 from rfl,← Nat.two_pow_add_eq_or_of_lt (Nat.mod_lt _ (by decide))]
  omega
 obtain⟨n,h1,h2⟩:=e1
 rw[h2]
 exact Ny (TW (y:=c) h1) hf
set_option maxHeartbeats 4000000 in
set_option maxRecDepth 100000 in
theorem DJ (y:Nat) (x:Nat) (w:World) (hM:Sat ⟨w,Xj []⟩ [] w) (hy:IsI y) (hx:IsI x):Calls Tryz.prog 164 #[.float .f64 y,.float .f64 x] w (QW (Γ:=Nat) ⟨w,Xj []⟩ (fun g=>.float .f64 g) (fun g=>[.inr (XF (Bd 46 g))])):=by
 refine Yv (w0:=⟨w,Xj []⟩) (vs:=[.float .f64 y,.float .f64 x]) hM Tryz.func164 rfl Tryz.ntmps164 rfl (TC.weak [(0,.float .f64 y),(1,.float .f64 x)] Kr (TC.sr (TL.run 1 [] [(0,.float .f64 y),(1,.float .f64 x)] rfl {} (TL.ns (TC.block (TC.sr (TL.run 1 [] [(0,.float .f64 y),(1,.float .f64 x),(7,.float .f64 y)] rfl {} (TL.call (some 8) [(0,.float .f64 y),(1,.float .f64 x),(8,.b ((Jc y)))] (fun w _=>VI y w) Kr Kr ?_))))))))
 generalize hr1:Jc y=r1
 refine TL.run 3 [] [(0,.float .f64 y),(1,.float .f64 x),(9,.b r1)] rfl {} (TL.split 9 r1 Kr (fun h1=>?_) (fun h1=>?_))
 ·exact((by have i_:=XY hy;rw[← hr1,HC] at h1;cases h1):False).elim
 ·refine TL.run 4 [] [(0,.float .f64 y),(1,.float .f64 x),(9,.b false),(10,.float .f64 x)] rfl {} (TL.call (some 11) [(0,.float .f64 y),(1,.float .f64 x),(9,.b false),(11,.b ((Jc x)))] (fun w _=>VI x w) Kr Kr ?_)
  generalize hr2:Jc x=r2
  refine TL.run 7 [] [(0,.float .f64 y),(1,.float .f64 x),(6,.b r2)] rfl {} (TL.next rfl (TC.cond r2 rfl Kr (fun h2=>?_) (fun h2=>?_)))
  ·exact((by have i_:=XY hx;rw[← hr2,HC] at h2;cases h2):False).elim
  ·refine TC.sr (TL.run 3 [] [(0,.float .f64 y),(1,.float .f64 x),(14,.b (feq y 0))] rfl {} (TL.next rfl (TC.cond (feq y 0) rfl Kr (fun h3=>?_) (fun h3=>?_))))
   ·refine TC.seq (TC.sr (TL.run 3 [] [(0,.float .f64 y),(1,.float .f64 x),(19,.b (fge x 0))] rfl {} (TL.split 19 (fge x 0) Kr (fun h4=>?_) (fun h4=>?_))))
    ·refine TL.run 4 [] [(0,.float .f64 y),(19,.b true),(20,.float .f64 x)] rfl {} (TL.call (some 21) [(0,.float .f64 y),(19,.b true),(21,.b ((KD x)))] (fun w _=>HB x w) Kr Kr ?_)
     generalize hr3:KD x=r3
     refine TL.run 7 [] [(0,.float .f64 y),(23,.b (!r3))] rfl {} (TL.next rfl (TC.cond (!r3) rfl Kr (fun h5=>?_) (fun h5=>?_)))
     ·refine TC.sr (TL.run 1 [] [(24,.float .f64 y)] rfl {} (TL.call (some 25) [(25,.float .f64 (YX 0 y))] (fun w _=>J6 0 y w) Kr Kr ?_))
      generalize hr4:YX 0 y=r4
      refine TL.run 3 [] [(4,.float .f64 r4)] rfl {} (TL.next rfl (TC.ret (TE.rt (TE.rb (TE.rt ?_)))))
      exact TE.retM (.inl rfl) r4 [] (.float .f64 r4) {} rfl (fun _ hM=>(hM.sub (sb 0)).fact (by have by_:=XY hy;have bx_:=XY hx;(try have bq_:=‹Bd 44 _›);subst hr1 hr2 hr3 hr4;(try dsimp only);first|exact VL (by decide) (VH hy)|exact XE))
     ·refine TC.snr (TL.run 1 [] [(26,.float .f64 y)] rfl {} (TL.call (some 27) [(27,.float .f64 (YX 4614256656552045848 y))] (fun w _=>J6 4614256656552045848 y w) Kr Kr ?_))
      generalize hr5:YX 4614256656552045848 y=r5
      refine TL.run 3 [] [(4,.float .f64 r5)] rfl {} (TL.next rfl (TC.ret (TE.rb (TE.rt ?_))))
      exact TE.retM (.inl rfl) r5 [] (.float .f64 r5) {} rfl (fun _ hM=>(hM.sub (sb 0)).fact (by have by_:=XY hy;have bx_:=XY hx;(try have bq_:=‹Bd 44 _›);subst hr1 hr2 hr3 hr5;(try dsimp only);first|exact VL (by decide) (VH hy)|exact XE))
    ·refine TL.run 7 [] [(0,.float .f64 y),(23,.b false)] rfl {} (TL.next rfl (TC.condF rfl Kr (TC.snr (TL.run 1 [] [(26,.float .f64 y)] rfl {} (TL.call (some 27) [(27,.float .f64 (YX 4614256656552045848 y))] (fun w _=>J6 4614256656552045848 y w) Kr Kr ?_)))))
     generalize hr6:YX 4614256656552045848 y=r6
     refine TL.run 3 [] [(4,.float .f64 r6)] rfl {} (TL.next rfl (TC.ret (TE.rb (TE.rt ?_))))
     exact TE.retM (.inl rfl) r6 [] (.float .f64 r6) {} rfl (fun _ hM=>(hM.sub (sb 0)).fact (by have by_:=XY hy;have bx_:=XY hx;(try have bq_:=‹Bd 44 _›);subst hr1 hr2 hr6;(try dsimp only);first|exact VL (by decide) (VH hy)|exact XE))
   ·refine TC.sr (TL.run 3 [] [(0,.float .f64 y),(1,.float .f64 x),(28,.b (feq x 0))] rfl {} (TL.next rfl (TC.cond (feq x 0) rfl Kr (fun h6=>?_) (fun h6=>?_))))
    ·refine TC.sr (TL.run 1 [] [(31,.float .f64 y)] rfl {} (TL.call (some 32) [(32,.float .f64 (YX 4609753056924675352 y))] (fun w _=>J6 4609753056924675352 y w) Kr Kr ?_))
     generalize hr7:YX 4609753056924675352 y=r7
     refine TL.run 3 [] [(4,.float .f64 r7)] rfl {} (TL.next rfl (TC.ret (TE.rb (TE.rt ?_))))
     exact TE.retM (.inl rfl) r7 [] (.float .f64 r7) {} rfl (fun _ hM=>(hM.sub (sb 0)).fact (by have by_:=XY hy;have bx_:=XY hx;(try have bq_:=‹Bd 44 _›);subst hr1 hr2 hr7;(try dsimp only);first|exact VL (by decide) (VH hy)|exact XE))
    ·refine TC.sr (TL.run 1 [] [(0,.float .f64 y),(1,.float .f64 x),(34,.float .f64 x)] rfl {} (TL.callM (Γ:=Bool) (fun g=>.b g) (fun g=>[.inr (XF (g=false))]) [] [] (some 35) (fun g=>[(0,.float .f64 y),(1,.float .f64 x),(35,.b g)]) (fun w hM=>VJ x 0 w hM.pass rfl (XY hx) (VH hx)) Kr (fun g=>Kr) ?_))
     rintro r_
     refine TL.conv [.inr (XF (r_=false))] (fun _ hM=>hM) (TL.know (fun w hM=>hM.fact_at 0 rfl) (fun hp_math_IsInf=>TL.forget [] (.cons _ (List.Sublist.refl _)) (TL.run 3 [] [(0,.float .f64 y),(1,.float .f64 x),(33,.b r_)] rfl {} (TL.next rfl (TC.cond r_ rfl Kr (fun h7=>?_) (fun h7=>?_))))))
     ·exact((by rw[hp_math_IsInf] at h7;cases h7):False).elim
     ·refine TC.sr (TL.run 1 [] [(0,.float .f64 y),(1,.float .f64 x),(53,.float .f64 y)] rfl {} (TL.callM (Γ:=Bool) (fun g=>.b g) (fun g=>[.inr (XF (g=false))]) [] [] (some 54) (fun g=>[(0,.float .f64 y),(1,.float .f64 x),(54,.b g)]) (fun w hM=>VJ y 0 w hM.pass rfl (XY hy) (VH hy)) Kr (fun g=>Kr) ?_))
      rintro r__2
      refine TL.conv [.inr (XF (r__2=false))] (fun _ hM=>hM) (TL.know (fun w hM=>hM.fact_at 0 rfl) (fun hp_math_IsInf=>TL.forget [] (.cons _ (List.Sublist.refl _)) (TL.run 3 [] [(0,.float .f64 y),(1,.float .f64 x),(52,.b r__2)] rfl {} (TL.next rfl (TC.cond r__2 rfl Kr (fun h8=>?_) (fun h8=>?_))))))
      ·exact((by rw[hp_math_IsInf] at h8;cases h8):False).elim
      ·refine TC.skip (TE.nb (TE.nr (TL.run 2 [] [(1,.float .f64 x),(57,.float .f64 y),(58,.float .f64 x)] rfl {} (TL.val (sV (binOp .quo 215 (.float .f64 y) (.float .f64 x))) (some 59) (.float .f64 (fdiv y x)) [(1,.float .f64 x),(59,.float .f64 (fdiv y x))] (fun w hM=>V0 (by have by_:=XY hy;have bx_:=XY hx;(try have bq_:=‹Bd 44 _›);subst hr1 hr2;have i_:=TV hx h6;exact fdS)) Kr Kr (TL.callM (Γ:=Nat) (fun g=>.float .f64 g) (fun g=>[.inr (XF (Bd 44 g))]) [] [] (some 60) (fun g=>[(1,.float .f64 x),(60,.float .f64 g)]) (fun w hM=>N1 (fdiv y x) w hM.pass (by have by_:=XY hy;have bx_:=XY hx;(try have bq_:=‹Bd 44 _›);subst hr1 hr2;have i_:=TV hx h6;exact XE)) Kr (fun g=>Kr) ?_)))))
       rintro r__3
       refine TL.conv [.inr (XF (Bd 44 r__3))] (fun _ hM=>hM) (TL.know (fun w hM=>hM.fact_at 0 rfl) (fun hp_math_Atan=>TL.forget [] (.cons _ (List.Sublist.refl _)) (TL.run 5 [] [(1,.float .f64 x),(5,.float .f64 r__3)] rfl {} (TL.ns (TC.sr (TL.run 2 [] [(5,.float .f64 r__3),(62,.b (flt x 0))] rfl {} (TL.next rfl (TC.cond (flt x 0) rfl Kr (fun h9=>?_) (fun h9=>?_)))))))))
       ·refine TC.seq (TC.sr (TL.run 2 [] [(5,.float .f64 r__3),(64,.b (fle r__3 0))] rfl {} (TL.next rfl (TC.cond (fle r__3 0) rfl Kr (fun h10=>?_) (fun h10=>?_)))))
        ·refine TC.sr (TL.run 1 [] [(65,.float .f64 r__3)] rfl {} (TL.val (sV (binOp .add 215 (.float .f64 r__3) (.float .f64 4614256656552045848))) (some 66) (.float .f64 (Zh r__3 4614256656552045848)) [(66,.float .f64 (Zh r__3 4614256656552045848))] (fun w hM=>Y9 (by have by_:=XY hy;have bx_:=XY hx;(try have bq_:=‹Bd 44 _›);exact faS)) Kr Kr (TL.run 3 [] [(4,.float .f64 (Zh r__3 4614256656552045848))] rfl {} (TL.next rfl (TC.ret (TE.rt (TE.rt ?_)))))))
         exact TE.retM (.inl rfl) (Zh r__3 4614256656552045848) [] (.float .f64 (Zh r__3 4614256656552045848)) {} rfl (fun _ hM=>(hM.sub (sb 0)).fact (by have by_:=XY hy;have bx_:=XY hx;(try have bq_:=‹Bd 44 _›);subst hr1 hr2;(try dsimp only);first|exact VL (by decide) (VH hy)|exact XE))
        ·exact TC.snr (TL.run 1 [] [(67,.float .f64 r__3)] rfl {} (TL.val (sV (binOp .sub 215 (.float .f64 r__3) (.float .f64 4614256656552045848))) (some 68) (.float .f64 (Ym r__3 4614256656552045848)) [(68,.float .f64 (Ym r__3 4614256656552045848))] (fun w hM=>KR (by have by_:=XY hy;have bx_:=XY hx;(try have bq_:=‹Bd 44 _›);exact fsS)) Kr Kr (TL.run 3 [] [(4,.float .f64 (Ym r__3 4614256656552045848))] rfl {} (TL.next rfl (TC.ret (TE.rt (TE.retM (.inl rfl) (Ym r__3 4614256656552045848) [] (.float .f64 (Ym r__3 4614256656552045848)) {} rfl (fun _ hM=>(hM.sub (sb 0)).fact (by have by_:=XY hy;have bx_:=XY hx;(try have bq_:=‹Bd 44 _›);subst hr1 hr2;(try dsimp only);first|exact VL (by decide) (VH hy)|exact XE)))))))))
       ·exact TC.snr (TL.run 2 [] [(4,.float .f64 r__3)] rfl {} (TL.next rfl (TC.ret (TE.retM (.inl rfl) r__3 [] (.float .f64 r__3) {} rfl (fun _ hM=>(hM.sub (sb 0)).fact (by have by_:=XY hy;have bx_:=XY hx;(try have bq_:=‹Bd 44 _›);subst hr1 hr2;(try dsimp only);first|exact VL (by decide) (VH hy)|exact XE))))))
set_option maxRecDepth 100000 in
theorem DK (y:Nat) (x:Nat) (w:World) (hM:Sat ⟨w,Xj []⟩ [] w) (hy:IsI y) (hx:IsI x):Calls Tryz.prog 130 #[.float .f64 y,.float .f64 x] w (QW (Γ:=Nat) ⟨w,Xj []⟩ (fun g=>.float .f64 g) (fun g=>[.inr (XF (Bd 46 g))])):=by
 refine Yv (w0:=⟨w,Xj []⟩) (vs:=[.float .f64 y,.float .f64 x]) hM Tryz.func130 rfl Tryz.ntmps130 rfl (TC.weak [(0,.float .f64 y),(1,.float .f64 x)] Kr (TC.sr (TL.run 1 [] [(0,.float .f64 y),(1,.float .f64 x)] rfl {} (TL.ns (TC.condF rfl Kr (TC.snr (TL.run 2 [] [(8,.float .f64 y),(9,.float .f64 x)] rfl {} (TL.callM (Γ:=Nat) (fun g=>.float .f64 g) (fun g=>[.inr (XF (Bd 46 g))]) [] [] (some 10) (fun g=>[(10,.float .f64 g)]) (fun w hM=>DJ y x w hM.pass sg sg) Kr (fun g=>Kr) ?_))))))))
 rintro r_
 exact TL.conv [.inr (XF (Bd 46 r_))] (fun _ hM=>hM) (TL.know (fun w hM=>hM.fact_at 0 rfl) (fun hp_math_atan2=>TL.forget [] (.cons _ (List.Sublist.refl _)) (TL.run 4 [] [(4,.float .f64 r_)] rfl {} (TL.next rfl (TC.ret (TE.retM (.inl rfl) r_ [] (.float .f64 r_) {} rfl (fun _ hM=>(hM.sub (sb 0)).fact (by (try dsimp only);first|exact hp_math_atan2))))))))
end Go.Sky
end
section
namespace Go.Sky
open Go Go.Eng
def Eh:List Nat:=[4460209587652500685,13716528389658582877,4523617212962785441,13774824197404483331,4575957461383575504,13818544856648471880]
def Ei:List Nat:=[13666448263388469915,4477121864728985349,13732177093698800582,4537941361668146421,13787419979223748497,4586165620538955083]
def W6 (x:Nat):Int:=f2i (Zd x 4608412980311869571)
def MN (x:Nat):Bool:=ZE .u64 (W6 x) 1==1
def N2 (x:Nat):Int:=bif MN x then YO (W6 x+1) else W6 x
def W7 (x:Nat):Nat:=bif MN x then Zh (dbl (W6 x)) 4607182418800017408 else dbl (W6 x)
def DL (x:Nat):Int:=ZE .u64 (N2 x) 7
def W8 (x:Nat):Nat:=Ym (Ym (Ym x (Zd (W7 x) 4605249456957292544)) (Zd (W7 x) 4495793288086814720)) (Zd (W7 x) 4388835458085048688)
def PE (a b c d e f z:Nat):Nat:=Zh (Zd (Zh (Zd (Zh (Zd (Zh (Zd (Zh (Zd a z) b) z) c) z) d) z) e) z) f
def PG (z zz:Nat):Nat:=Zh z (Zd (Zd z zz) (PE 4460209587652500685 13716528389658582877 4523617212962785441 13774824197404483331 4575957461383575504 13818544856648471880 zz))
def PH (zz:Nat):Nat:=Zh (Ym 4607182418800017408 (Zd 4602678819172646912 zz)) (Zd (Zd zz zz) (PE 13666448263388469915 4477121864728985349 13732177093698800582 4537941361668146421 13787419979223748497 4586165620538955083 zz))
def G2 (j:Int) (z:Nat):Nat:=bif j==1||j==2 then PH (Zd z z) else PG z (Zd z z)
def GX (x:Nat):Nat :=
 bif feq x 0 then x
 else bif decide (DL x>3) then U5 (G2 (YO (DL x-4)) (W8 x)) else G2 (DL x) (W8 x)
def OD (n:Nat):Nat:=fdiv (Zd (dbl (n:Int)) 4614256656552045848) 4656722014701092864
structure Uh (w:World):Prop where
 «1»:ML w 1 Ei
 «2»:ML w 2 Eh
theorem Uh.sat {w0 w:World} {D:Nat→Prop} {M:Mem} (h:Uh w0) (hM:Sat ⟨w0,D⟩ M w) (hD1:¬ D 1:=by first|exact(fun h=>h)|exact DI) (hD2:¬ D 2:=by first|exact(fun h=>h)|exact DI):Uh w :=
 ⟨h.1.sat hM hD1,h.2.sat hM hD2⟩
end Go.Sky
end
