/- Lemmas toward the given statement (part 11 of 20): Flob Ga SinF Gs Tab. Each theorem states its own conditions; nothing is assumed beyond them. -/
import Derived.Test.YtjggkpkehdnhiaaGreatDoorBp10
import Derived.Test.YtjggkpkehdnhiaaGreatDoorBp02
import Derived.KernelRfl
set_option maxRecDepth 100000
section
namespace Go.Eng
open Go.RowKit (Below)
def Oz (e x:Nat) (s g:Bool):Bool:=match DD.read x with
 | .number t m p=>(!s||!t)&&(decide (m=0)||(decide ((m.log2:Int)+p<e)||(decide (m=2 ^ m.log2)&&decide ((m.log2:Int)+p=e))))&&(!g||(decide (m≠0)&&decide (0≤(m.log2:Int)+p)))
 | _=>false
theorem Cf {e x:Nat} {s g:Bool} (h:Oz e x s g=true):∃ t m p,DD.read x=.number t m p∧(s=true→t=false)∧Lw m p e∧(g=true→m≠0∧0≤(m.log2:Int)+p):=by
 unfold Oz at h
 split at h
 ·rename_i t m p hr
  simp only[aX,fX,eT,decide_eq_true_eq] at h
  refine⟨t,m,p,hr,fun hs=>h.1.1.resolve_left (by rw[hs];decide),h.1.2,fun hg=>h.2.resolve_left (by rw[hg];decide)⟩
 ·cases h
section
variable {e x:Nat}
theorem Ue (h:Oz e x false false=true):Bd e x:=⟨fun _=>by obtain⟨t,m,p,h1,_,h2,_⟩:=Cf h;exact⟨t,m,p,h1,h2⟩⟩
theorem Ve (h:Oz e x true false=true):Po e x:=⟨fun _=>by obtain⟨t,m,p,h1,h0,h2,_⟩:=Cf h;rw[h0 rfl] at h1;exact⟨m,p,h1,h2⟩⟩
theorem VG (h:Oz e x true true=true):Pg e x:=⟨fun _=>by obtain⟨t,m,p,h1,h0,h2,h3⟩:=Cf h;rw[h0 rfl] at h1;exact⟨m,p,h1,h2,h3 rfl⟩⟩
end
set_option maxRecDepth 4000
instance:Pg 1 4608412980311869571:=VG (by decide)
instance:Pg 0 4607182418800017408:=VG (by decide)
instance:Po 0 4605249456957292544:=Ve (by decide)
instance:Po 0 4495793288086814720:=Ve (by decide)
instance:Po 0 4388835458085048688:=Ve (by decide)
instance:Po 0 4602678819172646912:=Ve (by decide)
instance:Po 0 4460209587652500685:=Ve (by decide)
instance:Bd 0 13716528389658582877:=Ue (by decide)
instance:Po 0 4523617212962785441:=Ve (by decide)
instance:Bd 0 13774824197404483331:=Ue (by decide)
instance:Po 0 4575957461383575504:=Ve (by decide)
instance:Bd 0 13818544856648471880:=Ue (by decide)
instance:Bd 0 13666448263388469915:=Ue (by decide)
instance:Po 0 4477121864728985349:=Ve (by decide)
instance:Bd 0 13732177093698800582:=Ue (by decide)
instance:Po 0 4537941361668146421:=Ve (by decide)
instance:Bd 0 13787419979223748497:=Ue (by decide)
instance:Po 0 4586165620538955083:=Ve (by decide)
instance:Pg 14 4670232813583204352:=VG (by decide)
instance:Pg 2 4614256656552045848:=VG (by decide)
instance:Pg 11 4656722014701092864:=VG (by decide)
instance:Bd 0 13829429103926125972:=Ue (by decide)
instance:Bd 5 13848613196940411002:=Ue (by decide)
instance:Bd 7 13858350711815275123:=Ue (by decide)
instance:Bd 7 13861719834326579749:=Ue (by decide)
instance:Bd 7 13857635882265799822:=Ue (by decide)
instance:Pg 5 4627690253511319612:=VG (by decide)
instance:Pg 8 4640010388282866213:=VG (by decide)
instance:Pg 9 4646322940342877755:=VG (by decide)
instance:Pg 9 4647246694406179306:=VG (by decide)
instance:Pg 8 4641049159275471596:=VG (by decide)
instance:Po 0 4604119971053405471:=Ve (by decide)
instance:Pg 2 4612618744449965542:=VG (by decide)
instance:Pg 1 4609753056924675352:=VG (by decide)
instance:Po 0 4364452196894661639:=Ve (by decide)
instance:Po 0 4605249457297304856:=Ve (by decide)
instance:Po 0 4359948597267291143:=Ve (by decide)
instance:Po 0 0:=Ve (by decide)
section
variable {e f x y:Nat}
theorem O0 (n:Int):dbl n=DD.nearest (n<0) n.natAbs 0:=rfl
theorem NS {n:Int} (h:n.natAbs<2 ^ e):Lw n.natAbs 0 e:=by
 by_cases h0:n.natAbs=0
 ·exact .inl h0
 ·have:=(eA h0).2 h;exact .inr (.inl (by omega))
theorem IE {n:Int} (e:Nat) (h:n.natAbs<2 ^ e):Bd e (dbl n):=⟨fun he=>by
 obtain⟨m',p',r1,r2,_⟩:=JE (n<0) (NS h) (by omega) (by omega)
 exact⟨_,m',p',r1,r2⟩⟩
theorem IF {n:Int} (e:Nat) (h:n.natAbs<2 ^ e) (h0:n≠0):Ge e (dbl n):=⟨fun he=>by
 obtain⟨m',p',r1,r2,r3⟩:=JE (n<0) (NS h) (by omega) (by omega)
 have:=r3 (by omega) (by omega)
 exact⟨_,m',p',r1,r2,this⟩⟩
theorem O1 {n:Int} (e:Nat) (h:n.natAbs<2 ^ e) (h0:0≤n):Po e (dbl n):=⟨fun he=>by
 obtain⟨m',p',r1,r2,_⟩:=JE false (NS h) (by omega) (by omega)
 refine⟨m',p',?_,r2⟩
 rw[O0,decide_eq_false (by omega)];exact r1⟩
theorem NT {m:Nat} {p:Int} (h:Lw m p e):(m <<< p.toNat)/2 ^ (min (-p).toNat ((m <<< p.toNat).log2+2))≤2 ^ e:=by
 by_cases hp:0≤p
 ·rw[show (-p).toNat=0 by omega,Nat.zero_min,Nat.pow_zero,Nat.div_one]
  have:=Dx (b:=0) (K:=e) (by rw[Int.zero_add];exact h) hp
  rwa [Int.sub_zero] at this
 unfold Lw at h
 by_cases h0:m=0
 ·rw[h0,dL,Nat.zero_div];exact aP _
 have h:=h.resolve_left h0
 have a:m<2 ^ (m.log2+1):=cZ
 rw[show p.toNat=0 by omega,dW]
 by_cases hq:(-p).toNat≤m.log2+2
 ·rw[dZ hq]
  rcases h with h|⟨h,h3⟩
  ·refine Nat.le_of_lt ?_
   rw[dG (bR _),← bQ]
   exact bV a (cC (by decide) (by omega))
  ·refine Nat.div_le_of_le_mul ?_
   rw[← bQ]
   refine bL (Nat.le_of_eq h) (cC (by decide) (by omega))
 ·rw[Nat.min_eq_right (by omega),Nat.div_eq_of_lt (bV a (cC (by decide) (by omega)))]
  exact aP _
theorem IG (neg:Bool) (n drop:Nat):Ieee.Toward.zero.cut neg n drop=n/2 ^ (min drop (n.log2+2)):=by
 unfold Ieee.Toward.cut
 simp only[gS,Bool.toNat_false,bZ]
theorem O2 [h:Bd e x] (he:e≤1000):∃ (s:Bool) (a:Nat),a≤2 ^ e∧(FloatKind.f64.decode x).toInt .zero=some (if s then -(a:Int) else a)∧f2i x=if s then -(a:Int) else a:=by
 obtain⟨s,m,p,h1,h2⟩:=h.bd he
 have hb:=NT h2
 have hr:FloatKind.f64.decode x=.number s m p:=h1
 have ht:(FloatKind.f64.decode x).toInt .zero=some (if s then -((m <<< p.toNat/2 ^ (min (-p).toNat ((m <<< p.toNat).log2+2)):Nat):Int) else (m <<< p.toNat/2 ^ (min (-p).toNat ((m <<< p.toNat).log2+2)):Nat)):=by
  rw[hr]
  simp only[Ieee.Datum.toInt,Ieee.Datum.integral,IG,Ieee.signed,dW]
 exact⟨s,_,hb,ht,by unfold f2i;rw[ht];rfl⟩
theorem EC [h:Bd e x] (he:e≤62:=by decide):floatToIntVal .f64 x .i64=some (f2i x):=by
 obtain⟨s,a,h1,h2,h3⟩:=O2 (x:=x) (e:=e) (by omega)
 have h4:2 ^ e≤2 ^ 62:=cC (by decide) he
 have h5:(2:Nat) ^ 62=4611686018427387904:=rfl
 have m1:IntKind.i64.min=-9223372036854775808:=rfl
 have m2:IntKind.i64.max=9223372036854775807:=rfl
 unfold floatToIntVal
 rw[h2,h3]
 simp only
 rw[m1,m2,if_pos (by split <;> omega)]
theorem ED [h:Po e x] (he:e≤62:=by decide):floatToIntVal .f64 x .u64=some (f2i x):=by
 obtain⟨m,p,h1,h2⟩:=h.po (by omega)
 have hb:=NT h2
 have hr:FloatKind.f64.decode x=.number false m p:=h1
 have h4:2 ^ e≤2 ^ 62:=cC (by decide) he
 have h5:(2:Nat) ^ 62=4611686018427387904:=rfl
 have ht:(FloatKind.f64.decode x).toInt .zero=some ((m <<< p.toNat/2 ^ (min (-p).toNat ((m <<< p.toNat).log2+2)):Nat):Int):=by
  rw[hr]
  simp only[Ieee.Datum.toInt,Ieee.Datum.integral,IG,Ieee.signed,dW,fG,if_false]
 have m1:IntKind.u64.min=0:=rfl
 have m2:IntKind.u64.max=18446744073709551615:=rfl
 obtain⟨a,ha⟩:∃ a,m <<< p.toNat/2 ^ (min (-p).toNat ((m <<< p.toNat).log2+2))=a:=⟨_,rfl⟩
 rw[ha] at hb ht
 unfold floatToIntVal f2i
 rw[ht]
 simp only
 rw[m1,m2,if_pos (by omega)]
 rfl
theorem IH [h:Po e x] (he:e≤1000:=by decide):0≤f2i x∧(f2i x).natAbs≤2 ^ e:=by
 obtain⟨m,p,h1,h2⟩:=h.po he
 have hb:=NT h2
 have hr:FloatKind.f64.decode x=.number false m p:=h1
 have ht:f2i x=((m <<< p.toNat/2 ^ (min (-p).toNat ((m <<< p.toNat).log2+2)):Nat):Int):=by
  unfold f2i;rw[hr]
  simp only[Ieee.Datum.toInt,Ieee.Datum.integral,IG,Ieee.signed,dW,fG,if_false,cV]
 rw[ht]
 exact⟨aQ _,by rw[fI];exact hb⟩
theorem Ci [h:Bd e x] (he:e≤1000):∃ (s:Bool) (a:Nat),a≤2 ^ e+1∧FloatKind.f64.encode ((FloatKind.f64.decode x).integral .down)=DD.nearest s a 0:=by
 obtain⟨s,m,p,h1,h2⟩:=h.bd he
 have hb:=NT h2
 have hr:FloatKind.f64.decode x=.number s m p:=h1
 refine⟨s,Ieee.Toward.down.cut s (m <<< p.toNat) (-p).toNat,?_,by rw[hr];rfl⟩
 have:=(Ce .down s (m <<< p.toNat) (-p).toNat).2
 omega
instance bdF [h:Bd e x]:Bd (e+1) (UZ x):=⟨fun he=>by
 obtain⟨s,a,h1,h2⟩:=Ci (x:=x) (e:=e) (by omega)
 have h3:Lw a 0 ((e+1:Nat):Int):=by
  by_cases h0:a=0
  ·exact .inl h0
  have hp:=bR e
  by_cases h5:a=2 ^ (e+1)
  ·have a4:a.log2=e+1:=by rw[h5];exact Us (aU _) (eB (by decide) (by omega))
   exact .inr (.inr ⟨by rw[a4];exact h5,by omega⟩)
  ·have:=(eA h0).2 (show a<2 ^ (e+1) by rw[gF] at h5 ⊢;omega)
   exact .inr (.inl (by omega))
 obtain⟨m',p',r1,r2,_⟩:=JE s h3 (by omega) (by omega)
 refine⟨s,m',p',?_,r2⟩
 unfold UZ;rw[h2];exact r1⟩
theorem Zar [h:Bd e x] (he:e≤1000:=by decide):∃ s m p,FloatKind.f64.decode x=.number s m p:=by
 obtain⟨s,m,p,h1,_⟩:=h.bd he
 exact⟨s,m,p,h1⟩
theorem Cj {f:FuncId} {P:Program} {w:World} {fn:Func} {b:Nat} (hf:P.funcs[f]?=some fn) (fb:(fn.name == "runtime.NumGoroutine")=false) (hb:fn.body.isNone=true) (hn:Extern.findNext fn=none)
  (he:Extern.find fn=some (Extern.MathFloor.toIntegral "math.archFloor" .down)) (hx:∃ s m p,FloatKind.f64.decode b=.number s m p):(callFunc f #[.float .f64 b]).run P w=.ok (.value (.float .f64 (UZ b))) w:=by
 rw[run_callFunc_extern hf fb hb hn he]
 obtain⟨s,m,p,h⟩:=hx
 have e:Extern.MathFloor.toIntegral "math.archFloor" .down #[.float .f64 b]=pure (.float .f64 (UZ b)):=by
  unfold UZ
  conv=>lhs;whnf
  rw[h]
 rw[e]
 rfl
def mkD (s:Bool) (r:Nat):Ieee.Datum :=
 if r<DD.binade then .number s r DD.leastPlace else if r<DD.infRung then .number s (DD.binade+r%DD.binade) (DD.leastPlace+(r/DD.binade-1:Nat)) else if r=DD.infRung then .infinity s else .nan s (r-DD.infRung)
theorem NU (x:Nat):DD.read x=mkD (x/DD.signWeight%2==1) (x%DD.signWeight):=rfl
theorem EE (s:Bool) (r:Nat):mkD (!s) r=(mkD s r).opposite:=by
 unfold mkD
 by_cases c1:r<DD.binade
 ·rw[if_pos c1,if_pos c1];rfl
 rw[if_neg c1,if_neg c1]
 by_cases c2:r<DD.infRung
 ·rw[if_pos c2,if_pos c2];rfl
 rw[if_neg c2,if_neg c2]
 by_cases c3:r=DD.infRung
 ·rw[if_pos c3,if_pos c3];rfl
 ·rw[if_neg c3,if_neg c3];rfl
theorem EF {s:Bool} {r m:Nat} {p:Int} (h:mkD s r=.number s m p) (t:Bool):mkD t r=.number t m p:=by
 unfold mkD at h ⊢
 by_cases c1:r<DD.binade
 ·rw[if_pos c1] at h ⊢;cases h;rfl
 rw[if_neg c1] at h ⊢
 by_cases c2:r<DD.infRung
 ·rw[if_pos c2] at h ⊢;cases h;rfl
 rw[if_neg c2] at h
 by_cases c3:r=DD.infRung
 ·rw[if_pos c3] at h;cases h
 ·rw[if_neg c3] at h;cases h
theorem O3 {s t:Bool} {r m:Nat} {p:Int} (h:mkD s r=.number t m p):t=s:=by
 unfold mkD at h
 by_cases c1:r<DD.binade
 ·rw[if_pos c1] at h;cases h;rfl
 rw[if_neg c1] at h
 by_cases c2:r<DD.infRung
 ·rw[if_pos c2] at h;cases h;rfl
 rw[if_neg c2] at h
 by_cases c3:r=DD.infRung
 ·rw[if_pos c3] at h;cases h
 ·rw[if_neg c3] at h;cases h
theorem FR (x:Nat):DD.read (We x)=(DD.read x).opposite:=by
 have h1:(x ^^^ 9223372036854775808)%9223372036854775808=x%9223372036854775808:=by
  have:=Nat.xor_mod_two_pow (a:=x) (b:=9223372036854775808) (n:=63)
  rw[show (2:Nat) ^ 63=9223372036854775808 from rfl,Nat.mod_self,Nat.xor_zero] at this
  exact this
 have h2:(x ^^^ 9223372036854775808)/9223372036854775808=(x/9223372036854775808) ^^^ 1:=by
  have:=Nat.xor_div_two_pow (a:=x) (b:=9223372036854775808) (n:=63)
  rw[show (2:Nat) ^ 63=9223372036854775808 from rfl] at this
  rw[this]
 have h3:(((x/9223372036854775808) ^^^ 1)%2==1)=!(x/9223372036854775808%2==1):=by
  have:=Nat.xor_mod_two_pow (a:=x/9223372036854775808) (b:=1) (n:=1)
  rw[Nat.pow_one] at this
  rw[this]
  rcases Nat.mod_two_eq_zero_or_one (x/9223372036854775808) with h|h <;> rw[h] <;> rfl
 rw[NU,NU,We,B1,h1,h2,h3,EE]
instance bdN [h:Bd e x]:Bd e (We x):=⟨fun he=>by
 obtain⟨s,m,p,h1,h2⟩:=h.bd he
 exact⟨!s,m,p,by rw[FR,h1];rfl,h2⟩⟩
theorem V1 {s t:Bool} {m n:Nat} {i j:Int} (hx:DD.read x=.number s m i) (hy:DD.read y=.number t n j):fcm x y=some (compare (Ieee.signed s m (i-min i j).toNat) (Ieee.signed t n (j-min i j).toNat)):=by
 unfold fcm Ieee.Format.order
 rw[show FloatKind.f64.format.read x=.number s m i from hx,show FloatKind.f64.format.read y=.number t n j from hy];rfl
theorem SK (a:Int):compare a a=Ordering.eq:=by
 show compareOfLessAndEq a a=_
 unfold compareOfLessAndEq
 rw[if_neg (by omega),if_pos rfl]
theorem TJ {a b:Int}:compare a b=Ordering.lt↔a<b:=by
 show compareOfLessAndEq a b=_↔_
 unfold compareOfLessAndEq
 by_cases h:a<b
 ·simp[h]
 ·by_cases h2:a=b <;> simp[h,h2]
theorem B6 {a b:Int}:compare a b=Ordering.gt↔b<a:=by
 show compareOfLessAndEq a b=_↔_
 unfold compareOfLessAndEq
 by_cases h:a<b
 ·simp[h];omega
 ·by_cases h2:a=b <;> simp[h,h2];omega
theorem O4 [h:Bd e x] (he:e≤1000:=by decide):fne x x=false:=by
 obtain⟨s,m,p,h1,_⟩:=h.bd he
 unfold fne;rw[V1 h1 h1,SK];rfl
theorem SL {s:Bool} {m a:Nat}:Ieee.signed s m a≤((m <<< a:Nat):Int):=by
 unfold Ieee.signed;cases s
 ·exact cO _
 ·have:=aQ (m <<< a)
  show -((m <<< a:Nat):Int)≤_
  generalize ((m <<< a:Nat):Int)=z at this ⊢
  omega
theorem O5 [h:Bd e x] {n:Nat} {j:Int} (hy:DD.read y=.number false n j) (hn:n≠0) (hj:(e:Int)<n.log2+j) (he:e≤1000):fge x y=false:=by
 obtain⟨s,m,i,h1,h2⟩:=h.bd he
 have hlt:Ieee.signed s m (i-min i j).toNat<Ieee.signed false n (j-min i j).toNat:=by
  refine Int.lt_of_le_of_lt SL ?_
  rw[Jz]
  refine cB.2 ?_
  have q1:2 ^ (n.log2+(j-min i j).toNat)≤n <<< (j-min i j).toNat:=by
   rw[cL,bQ];exact bS _ (dU hn)
  refine bV ?_ q1
  by_cases hz:0≤(e:Int)-min i j
  ·have c:=Dx (m:=m) (i:=i) (b:=min i j) (K:=((e:Int)-min i j).toNat) (h2.mono (by omega)) (by omega)
   exact fH c (eB (by decide) (by omega))
  ·have m0:m=0:=by unfold Lw at h2;omega
   rw[m0,dL];exact bR _
 unfold fge;rw[V1 h1 hy,TJ.2 hlt];rfl
theorem EG [h:Bd e x] (he:e<29:=by decide):fge x 4737786807993761792=false:=by
 refine O5 (n:=4503599627370496) (j:=-23) rfl (by decide) ?_ (by omega)
 rw[show Nat.log2 4503599627370496=52 from Us (by decide) (by decide)];omega
theorem EH [h:Bd e x] (he:e≤1000:=by decide):fgt x 9218868437227405311=false:=by
 have g:fge x 9218868437227405311=false:=by
  refine O5 (n:=9007199254740991) (j:=971) rfl (by decide) ?_ he
  rw[show Nat.log2 9007199254740991=52 from Us (by decide) (by decide)];omega
 unfold fge at g;unfold fgt
 exact(cH.1 g).1
theorem Cm:DD.read 0=.number false 0 (-1074):=rfl
theorem Dz (a:Nat):Ieee.signed false 0 a=0:=by unfold Ieee.signed;rw[dL];rfl
theorem II [h:Po e x] (he:e≤1000:=by decide):flt x 0=false:=by
 obtain⟨m,p,h1,_⟩:=h.po he
 unfold flt;rw[V1 h1 Cm,Dz,Jz]
 have:¬ compare ((m <<< (p-min p (-1074)).toNat:Nat):Int) 0=Ordering.lt:=by
  rw[TJ];exact Int.not_lt.2 (aQ _)
 generalize compare ((m <<< (p-min p (-1074)).toNat:Nat):Int) 0=c at this
 cases c
 ·exact absurd rfl this
 ·rfl
 ·rfl
theorem O6 [h:Bd e x] (hg:fgt x 0=true):Po e x:=⟨fun he=>by
 obtain⟨s,m,p,h1,h2⟩:=h.bd he
 unfold fgt at hg;rw[V1 h1 Cm,Dz] at hg
 have:compare (Ieee.signed s m (p-min p (-1074)).toNat) 0=Ordering.gt:=by
  generalize compare (Ieee.signed s m (p-min p (-1074)).toNat) 0=c at hg
  cases c
  ·cases hg
  ·cases hg
  ·rfl
 rw[B6] at this
 cases s
 ·exact⟨m,p,h1,h2⟩
 ·exfalso
  have e1:Ieee.signed true m (p-min p (-1074)).toNat=-((m <<< (p-min p (-1074)).toNat:Nat):Int):=rfl
  rw[e1] at this
  have:=aQ (m <<< (p-min p (-1074)).toNat)
  generalize ((m <<< (p-min p (-1074)).toNat:Nat):Int)=z at *
  omega⟩
theorem SN [h:Bd e x] (hz:feq x 0=false) (hg:fgt x 0=false):Po e (We x):=⟨fun he=>by
 obtain⟨s,m,p,h1,h2⟩:=h.bd he
 cases s
 ·exfalso
  unfold feq at hz;unfold fgt at hg
  rw[V1 h1 Cm,Dz,Jz] at hz hg
  have n1:=aQ (m <<< (p-min p (-1074)).toNat)
  generalize ((m <<< (p-min p (-1074)).toNat:Nat):Int)=z at *
  rcases Int.lt_trichotomy 0 z with c|c|c
  ·rw[B6.2 c] at hg;cases hg
  ·subst c;cases hz
  ·omega
 ·exact⟨m,p,by rw[FR,h1];rfl,h2⟩⟩
theorem LO [h:Bd e x] [hy:Pg f y] (hf:f≤1000) (hg:fgt x y=true):Pg e x:=⟨fun he=>by
 obtain⟨s,m,i,h1,h2⟩:=h.bd he
 obtain⟨n,j,k1,k2,k3,k4⟩:=hy.pg hf
 unfold fgt at hg;rw[V1 h1 k1,Jz] at hg
 have:compare (Ieee.signed s m (i-min i j).toNat) ((n <<< (j-min i j).toNat:Nat):Int)=Ordering.gt:=by
  generalize compare (Ieee.signed s m (i-min i j).toNat) ((n <<< (j-min i j).toNat:Nat):Int)=c at hg
  cases c
  ·cases hg
  ·cases hg
  ·rfl
 rw[B6] at this
 have q1:2 ^ (n.log2+(j-min i j).toNat)≤n <<< (j-min i j).toNat:=by
  rw[cL,bQ];exact bS _ (dU k3)
 cases s
 ·rw[Jz] at this
  have t2:=cB.1 this
  have m0:m≠0:=by
   intro hm;rw[hm,dL] at t2;exact cE _ t2
  have a:m<2 ^ (m.log2+1):=cZ
  have c:=cM a (bR (i-min i j).toNat)
  rw[← bQ,← cL] at c
  have d:2 ^ (n.log2+(j-min i j).toNat)<2 ^ (m.log2+1+(i-min i j).toNat):=fH q1 (Nat.lt_trans t2 c)
  have d2:=(Nat.pow_lt_pow_iff_right (by decide:1<2)).1 d
  exact⟨m,i,h1,h2,m0,by omega⟩
 ·exfalso
  have e1:Ieee.signed true m (i-min i j).toNat=-((m <<< (i-min i j).toNat:Nat):Int):=rfl
  rw[e1] at this
  have n1:=aQ (m <<< (i-min i j).toNat)
  have n2:=aQ (n <<< (j-min i j).toNat)
  generalize ((m <<< (i-min i j).toNat:Nat):Int)=z at *
  generalize ((n <<< (j-min i j).toNat:Nat):Int)=z2 at *
  omega⟩
theorem SO {m:Nat} {i b:Int} {K:Nat} (h:m <<< (i-b).toNat≤2 ^ K) (hi:b≤i):Lw m i (b+K):=by
 by_cases h0:m=0
 ·exact .inl h0
 rw[cL] at h
 have a1:=bS (2 ^ (i-b).toNat) (dU h0)
 rw[← bQ] at a1
 have a2:=(Nat.pow_le_pow_iff_right (by decide:1<2)).1 (bL a1 h)
 by_cases h3:m.log2+(i-b).toNat=K
 ·refine .inr (.inr ⟨?_,by omega⟩)
  rw[← h3,bQ] at h
  exact Nat.le_antisymm (Nat.le_of_mul_le_mul_right h (bR _)) (dU h0)
 ·exact .inr (.inl (by omega))
theorem FS [h:Po e x] [hy:Po f y] (hg:fgt x y=false) (he:e≤1000:=by decide):Po f x:=⟨fun hf=>by
 obtain⟨m,i,h1,h2⟩:=h.po he
 obtain⟨n,j,k1,k2⟩:=hy.po hf
 unfold fgt at hg;rw[V1 h1 k1,Jz,Jz] at hg
 have hc:¬ compare ((m <<< (i-min i j).toNat:Nat):Int) ((n <<< (j-min i j).toNat:Nat):Int)=Ordering.gt:=by
  intro hc;rw[hc] at hg;cases hg
 rw[B6] at hc
 have hle:m <<< (i-min i j).toNat≤n <<< (j-min i j).toNat:=Int.ofNat_le.1 (Int.not_lt.1 hc)
 refine⟨m,i,h1,?_⟩
 by_cases hz:0≤(f:Int)-min i j
 ·have c:=Dx (m:=n) (i:=j) (b:=min i j) (K:=((f:Int)-min i j).toNat) (k2.mono (by omega)) (by omega)
  exact(SO (bL hle c) (by omega)).mono (by omega)
 ·have n0:n=0:=by unfold Lw at k2;omega
  rw[n0,dL,cL] at hle
  have p1:=bR (i-min i j).toNat
  rcases bX m with hm|hm
  ·exact .inl hm
  ·have:=Nat.mul_pos hm p1;omega⟩
theorem EI (h:fle x y=true):fgt x y=false:=by
 unfold fle at h;unfold fgt
 generalize fcm x y=c at h
 rcases c with _|_|_|_ <;> first|rfl|cases h
theorem LP (h:Bd e x) (hf:e≤f:=by decide):Bd f x:=⟨fun he=>by obtain⟨s,m,p,h1,h2⟩:=h.bd (by omega);exact⟨s,m,p,h1,h2.mono (by omega)⟩⟩
theorem O7 (h:Po e x) (hf:e≤f:=by decide):Po f x:=⟨fun he=>by obtain⟨m,p,h1,h2⟩:=h.po (by omega);exact⟨m,p,h1,h2.mono (by omega)⟩⟩
theorem Yv [h:Bd e x] (hr:x=y):Bd e y:=hr ▸ h
theorem Yx [h:Po e x] (hr:x=y):Po e y:=hr ▸ h
theorem Qz [h:Bd e x] (hf:e≤f:=by decide):Bd f x:=LP h hf
theorem NV [h:Po e x] (hf:e≤f:=by decide):Po f x:=O7 h hf
def IsI (y:Nat):Prop:=∃ n:Int,n.natAbs<2 ^ 21∧y=dbl n
theorem QX (h:IsI y):Bd 21 y:=by obtain⟨n,h1,rfl⟩:=h;exact IE 21 h1
theorem Gf (h:IsI y):y<18446744073709551616:=by obtain⟨n,h1,rfl⟩:=h;exact Go.Sky.dbl_lt n
theorem IJ {n:Int} (h:feq (dbl n) 0=false):n≠0:=by
 intro h0;subst h0;cases h
theorem O8 (h:IsI y) (h0:feq y 0=false):Ge 21 y:=by obtain⟨n,h1,rfl⟩:=h;exact IF 21 h1 (IJ h0)
theorem O9 (hxy:x%9223372036854775808=y%9223372036854775808) [h:Bd e y]:Bd e x:=⟨fun he=>by
 obtain⟨s,m,p,h1,h2⟩:=h.bd he
 rw[NU] at h1 ⊢
 rw[show x%DD.signWeight=y%DD.signWeight from hxy]
 have hs:=O3 h1
 subst hs
 exact⟨_,m,p,EF h1 _,h2⟩⟩
end
def C0 (w:World) (g:Nat) (zs:List Nat):Prop:=g<w.heap.size∧∀ i z,zs[i]?=some z→w.cell? ⟨g,i,none⟩=some (.float .f64 z)
theorem NW {b:Nat}:¬ XR [] b:=by rintro⟨_,h,_⟩;cases h
theorem C0.sat {w0 w:World} {D:Nat→Prop} {M:Mem} {g:Nat} {zs:List Nat} (h:C0 w0 g zs) (hM:Sat ⟨w0,D⟩ M w) (hD:¬ D g:=by first|exact(fun h=>h)|exact NW):C0 w g zs:=by
 refine⟨bV h.1 hM.chg.size,fun i z hz=>?_⟩
 have:=h.2 i z hz
 unfold World.cell? at this ⊢
 rw[show w.heap[(⟨g,i,none⟩:Addr).block]?=w0.heap[(⟨g,i,none⟩:Addr).block]? from hM.chg.block g h.1 hD]
 exact this
theorem Qj {P:Program} {w:World} {T g i z:Nat} {zs:List Nat} (h:C0 w g zs) (hz:zs[i]?=some z) (hT:P2 P T=true) :
  (sV (Instr.loadAt T (.pointer (some ⟨g,i,none⟩)))).run P w=.ok (.value (.float .f64 z)) w:=by
 have hR:Rd w 1 (some ⟨g,i,none⟩) [#[.float .f64 z]]:=⟨show 1<4611686018427387904 by decide,fun k r hk=>by
  cases k with
  | succ k=>cases hk
  | zero =>
   cases hk
   refine⟨rfl,_,rfl,h.1,fun j v hj=>?_⟩
   cases j with
   | succ j=>simp at hj
   | zero =>
    simp at hj;subst hj
    exact h.2 i z hz⟩
 exact Zu (off:=0) (i:=0) (.float .f64 z) hR rfl hT rfl
end Go.Eng
end
section
namespace Go.Sky
open Go Go.Eng Go.Proofs
abbrev pQ0 (a:Nat):Nat:=Zk (YH 4609753056924675352 a) 4364452196894661639
abbrev pQ1 (a:Nat):Nat:=Zk (Zk 4605249457297304856 a) 4359948597267291143
abbrev pQ5 (a:Nat):Nat:=Zk (Zh 13829429103926125972 a) 13848613196940411002
abbrev pQ7 (a:Nat):Nat:=Zk (Zh (Zk a 4627690253511319612) a) 4640010388282866213
abbrev pQ10 (a:Nat):Nat:=Zh (pQ5 a) a
abbrev pQ11 (a:Nat):Nat:=fdiv (YH a 4607182418800017408) (Zk a 4607182418800017408)
abbrev pQ12 (a:Nat):Nat:=Zh (pQ7 a) a
abbrev pQ15 (a:Nat):Nat:=Zk (pQ10 a) 13858350711815275123
abbrev pQ16 (a:Nat):Nat:=Zk (pQ12 a) 4646322940342877755
abbrev pQ19 (a:Nat):Nat:=Zh (pQ15 a) a
abbrev pQ20 (a:Nat):Nat:=Zh (pQ16 a) a
abbrev pQ23 (a:Nat):Nat:=Zk (pQ19 a) 13861719834326579749
abbrev pQ24 (a:Nat):Nat:=Zk (pQ20 a) 4647246694406179306
abbrev pQ27 (a:Nat):Nat:=Zh (pQ23 a) a
abbrev pQ28 (a:Nat):Nat:=Zh (pQ24 a) a
abbrev pQ31 (a:Nat):Nat:=Zk (pQ27 a) 13857635882265799822
abbrev pQ32 (a:Nat):Nat:=Zk (pQ28 a) 4641049159275471596
abbrev pQ35 (a:Nat):Nat:=Zh a (pQ31 a)
abbrev pQ40 (a:Nat):Nat:=fdiv (pQ35 a) (pQ32 a)
def Ku (f:Nat):Bool :=
 fne f f
theorem Gg (f:Nat) (w:World):Calls Tryz.prog 193 #[.fl f] w (Ret w (.bool (Ku f))):=by
 exact Zp (vs:=[.fl f]) (w:=w) Tryz.func193 rfl Tryz.ntmps193 rfl (Zf (Zc 1 [] [(2,.b false)] {} (Zz (Zc 4 [] [(2,.b (fne f f))] {} (Zb rfl (TC.ret (TE.ret [] (.b (fne f f)) {} (by unfold Ku;refine eS (fun z=>(.b z:Value)) ?_;exact rfl))))))))
def Ug (x:Nat):Nat :=
 (Jk .u64 (x:Int) 9223372036854775808).toNat
theorem C2 (x:Nat) (w:World):Calls Tryz.prog 223 #[.fl x] w (Ret w (.fl (Ug x))):=by
 exact Zp (vs:=[.fl x]) (w:=w) Tryz.func223 rfl Tryz.ntmps223 rfl (Zf (Zc 1 [] [(2,.fl 0)] {} (Zz (Zc 1 [] [(3,.fl x)] {} (TL.v (callFunc 134 #[.fl x]) 4 (.int .u64 (x:Int)) (fun w hM=>VE Tryz.func134 Kr Kr Kr Kr) {} (Zc 3 [] [(5,.int .u64 (Jk .u64 (x:Int) 9223372036854775808))] {} (TL.v (callFunc 202 #[.int .u64 (Jk .u64 (x:Int) 9223372036854775808)]) 6 (.fl ((Jk .u64 (x:Int) 9223372036854775808).toNat)) (fun w hM=>J7 Tryz.func202 Kr Kr Kr Kr) {} (Zc 5 [] [(2,.fl ((Jk .u64 (x:Int) 9223372036854775808).toNat))] {} (Zb rfl (TC.ret (TE.ret [] (.fl ((Jk .u64 (x:Int) 9223372036854775808).toNat)) {} (by unfold Ug;refine eS (fun z=>(.fl z:Value)) ?_;exact rfl))))))))))))
theorem EJ {f r:Nat} [h:Bd 21 f] (hl:f<18446744073709551616) (hr:Ug f=r):fgt r 9218868437227405311=false:=by
 subst hr
 have e:Ug f=f%9223372036854775808:=by
  unfold Ug
  rw[HW hl];rfl
 rw[e]
 have:=O9 (x:=f%9223372036854775808) (y:=f) (e:=21) (Nat.mod_mod _ _)
 exact EH (e:=21)
theorem Gh (f:Nat) (sign:Int) (w:World) (hM:Sat ⟨w,XR []⟩ [] w) (hs:sign=0) (hb:Bd 21 f) (hl:f<18446744073709551616):Calls Tryz.prog 194 #[.fl f,.int .i64 sign] w (JH (Γ:=Bool) ⟨w,XR []⟩ (fun g=>.bool g) (fun g=>[.inr (Qm (g=false))])):=by
 refine YS (w0:=⟨w,XR []⟩) (vs:=[.fl f,.i sign]) hM Tryz.func194 rfl Tryz.ntmps194 rfl (JG [(0,.fl f),(1,.i sign)] Kr (Zf (TL.run 1 [] [(0,.fl f),(1,.i sign)] rfl {} (Z1 (Zf (TL.run 2 [] [(0,.fl f),(1,.i sign),(6,.b (sign==0))] rfl {} (Zb rfl (TC.cond (sign==0) rfl Kr (fun h1=>?_) (fun h1=>?_)))))))))
 ·refine TC.region (TL.run 1 [] [(7,.fl f)] rfl {} (TL.call (some 8) [(8,.fl (Ug f))] (fun w _=>C2 f w) Kr Kr ?_))
  generalize hr1:Ug f=r1
  exact TL.run 3 [] [(0,.fl r1)] rfl {} (Zz (TL.run 3 [] [(4,.b (fgt r1 9218868437227405311))] rfl {} (Zb rfl (TC.ret (ZO (.inl rfl) (fgt r1 9218868437227405311) [] (.b (fgt r1 9218868437227405311)) {} rfl (fun _ hM=>(hM.sub (sb 0)).fact (by have q0_:=(YT h1);subst hr1;(try dsimp only);first|exact EJ hl rfl)))))))
 ·exact((by subst hs;cases h1):False).elim
def VO (x:Nat):Bool :=
 decide ((w64 (x:Int))<0)
theorem D1 (x:Nat) (w:World):Calls Tryz.prog 197 #[.fl x] w (Ret w (.bool (VO x))):=by
 exact Zp (vs:=[.fl x]) (w:=w) Tryz.func197 rfl Tryz.ntmps197 rfl (Zf (Zc 1 [] [(2,.b false)] {} (Zz (Zc 1 [] [(3,.fl x)] {} (TL.v (callFunc 134 #[.fl x]) 4 (.int .u64 (x:Int)) (fun w hM=>VE Tryz.func134 Kr Kr Kr Kr) {} (Zc 5 [] [(2,.b (decide ((w64 (x:Int))<0)))] {} (Zb rfl (TC.ret (TE.ret [] (.b (decide ((w64 (x:Int))<0))) {} (by unfold VO;refine eS (fun z=>(.b z:Value)) ?_;exact rfl))))))))))
def XA (f:Nat) (sign:Nat):Nat :=
 (kor .u64 (Jk .u64 (f:Int) 9223372036854775808) (ZZ .u64 (sign:Int) 9223372036854775808)).toNat
theorem KY (f:Nat) (sign:Nat) (w:World):Calls Tryz.prog 198 #[.fl f,.fl sign] w (Ret w (.fl (XA f sign))):=by
 exact Zp (vs:=[.fl f,.fl sign]) (w:=w) Tryz.func198 rfl Tryz.ntmps198 rfl (Zf (Zc 1 [] [(4,.fl 0)] {} (Zz (Zc 1 [] [(5,.fl f)] {} (TL.v (callFunc 134 #[.fl f]) 6 (.int .u64 (f:Int)) (fun w hM=>VE Tryz.func134 Kr Kr Kr Kr) {} (Zc 4 [] [(7,.int .u64 (Jk .u64 (f:Int) 9223372036854775808)),(8,.fl sign)] {} (TL.v (callFunc 134 #[.fl sign]) 9 (.int .u64 (sign:Int)) (fun w hM=>VE Tryz.func134 Kr Kr Kr Kr) {} (Zc 7 [] [(11,.int .u64 (kor .u64 (Jk .u64 (f:Int) 9223372036854775808) (ZZ .u64 (sign:Int) 9223372036854775808)))] {} (TL.v (callFunc 202 #[.int .u64 (kor .u64 (Jk .u64 (f:Int) 9223372036854775808) (ZZ .u64 (sign:Int) 9223372036854775808))]) 12 (.fl ((kor .u64 (Jk .u64 (f:Int) 9223372036854775808) (ZZ .u64 (sign:Int) 9223372036854775808)).toNat)) (fun w hM=>J7 Tryz.func202 Kr Kr Kr Kr) {} (Zc 9 [] [(4,.fl ((kor .u64 (Jk .u64 (f:Int) 9223372036854775808) (ZZ .u64 (sign:Int) 9223372036854775808)).toNat))] {} (Zb rfl (TC.ret (TE.ret [] (.fl ((kor .u64 (Jk .u64 (f:Int) 9223372036854775808) (ZZ .u64 (sign:Int) 9223372036854775808)).toNat)) {} (by unfold XA;refine eS (fun z=>(.fl z:Value)) ?_;exact rfl))))))))))))))
theorem Gi (x:Nat) (w:World) (hM:Sat ⟨w,XR []⟩ [] w) (hx:Bd 3 x):Calls Tryz.prog 242 #[.fl x] w (JH (Γ:=Nat) ⟨w,XR []⟩ (fun g=>.fl g) (fun g=>[.inr (Qm (Bd 40 g))])):=by
 refine YS (w0:=⟨w,XR []⟩) (vs:=[.fl x]) hM Tryz.func242 rfl Tryz.ntmps242 rfl (JG [(0,.fl x)] Kr (Zf (TL.run 1 [] [(0,.fl x)] rfl {} (Zz (TL.run 2 [] [(0,.fl x),(4,.fl x),(5,.fl x)] rfl {} (ZW (sV (binOp .mul 215 (.fl x) (.fl x))) (some 6) (.fl (Zh x x)) [(0,.fl x),(6,.fl (Zh x x))] (fun w hM=>Y9 (by (try have bz_:=Yx ‹Zh x x=_›);(try have bq_:=Yv ‹fdiv _ _=_›);exact fmS)) Kr Kr (TL.run 4 [] [(0,.fl x),(3,.fl (Zh x x))] rfl {} ?_)))))))
 generalize hr1:Zh x x=r1
 refine Zz (TL.run 2 [] [(0,.fl x),(3,.fl r1),(7,.fl r1),(8,.fl r1)] rfl {} (ZW (sV (binOp .mul 215 (.fl 13829429103926125972) (.fl r1))) (some 9) (.fl (Zh 13829429103926125972 r1)) [(0,.fl x),(3,.fl r1),(7,.fl r1),(9,.fl (Zh 13829429103926125972 r1))] (fun w hM=>Y9 (by (try have bz_:=Yx ‹Zh x x=_›);(try have bq_:=Yv ‹fdiv _ _=_›);exact fmS)) Kr Kr (ZW (sV (binOp .add 215 (.fl (Zh 13829429103926125972 r1)) (.fl 13848613196940411002))) (some 10) (.fl (pQ5 r1)) [(0,.fl x),(3,.fl r1),(7,.fl r1),(10,.fl (pQ5 r1))] (fun w hM=>Xn (by (try have bz_:=Yx ‹Zh x x=_›);(try have bq_:=Yv ‹fdiv _ _=_›);exact faS)) Kr Kr (TL.run 5 [] [(0,.fl x),(3,.fl r1),(7,.fl r1),(10,.fl (pQ5 r1)),(11,.fl r1)] rfl {} (ZW (sV (binOp .mul 215 (.fl (pQ5 r1)) (.fl r1))) (some 12) (.fl (pQ10 r1)) [(0,.fl x),(3,.fl r1),(7,.fl r1),(12,.fl (pQ10 r1))] (fun w hM=>Y9 (by (try have bz_:=Yx ‹Zh x x=_›);(try have bq_:=Yv ‹fdiv _ _=_›);exact fmS)) Kr Kr (ZW (sV (binOp .add 215 (.fl (pQ10 r1)) (.fl 13858350711815275123))) (some 13) (.fl (pQ15 r1)) [(0,.fl x),(3,.fl r1),(7,.fl r1),(13,.fl (pQ15 r1))] (fun w hM=>Xn (by (try have bz_:=Yx ‹Zh x x=_›);(try have bq_:=Yv ‹fdiv _ _=_›);exact faS)) Kr Kr (TL.run 8 [] [(0,.fl x),(3,.fl r1),(7,.fl r1),(13,.fl (pQ15 r1)),(14,.fl r1)] rfl {} (ZW (sV (binOp .mul 215 (.fl (pQ15 r1)) (.fl r1))) (some 15) (.fl (pQ19 r1)) [(0,.fl x),(3,.fl r1),(7,.fl r1),(15,.fl (pQ19 r1))] (fun w hM=>Y9 (by (try have bz_:=Yx ‹Zh x x=_›);(try have bq_:=Yv ‹fdiv _ _=_›);exact fmS)) Kr Kr (ZW (sV (binOp .add 215 (.fl (pQ19 r1)) (.fl 13861719834326579749))) (some 16) (.fl (pQ23 r1)) [(0,.fl x),(3,.fl r1),(7,.fl r1),(16,.fl (pQ23 r1))] (fun w hM=>Xn (by (try have bz_:=Yx ‹Zh x x=_›);(try have bq_:=Yv ‹fdiv _ _=_›);exact faS)) Kr Kr (TL.run 11 [] [(0,.fl x),(3,.fl r1),(7,.fl r1),(16,.fl (pQ23 r1)),(17,.fl r1)] rfl {} (ZW (sV (binOp .mul 215 (.fl (pQ23 r1)) (.fl r1))) (some 18) (.fl (pQ27 r1)) [(0,.fl x),(3,.fl r1),(7,.fl r1),(18,.fl (pQ27 r1))] (fun w hM=>Y9 (by (try have bz_:=Yx ‹Zh x x=_›);(try have bq_:=Yv ‹fdiv _ _=_›);exact fmS)) Kr Kr (ZW (sV (binOp .add 215 (.fl (pQ27 r1)) (.fl 13857635882265799822))) (some 19) (.fl (pQ31 r1)) [(0,.fl x),(3,.fl r1),(7,.fl r1),(19,.fl (pQ31 r1))] (fun w hM=>Xn (by (try have bz_:=Yx ‹Zh x x=_›);(try have bq_:=Yv ‹fdiv _ _=_›);exact faS)) Kr Kr (ZW (sV (binOp .mul 215 (.fl r1) (.fl (pQ31 r1)))) (some 20) (.fl (pQ35 r1)) [(0,.fl x),(3,.fl r1),(20,.fl (pQ35 r1))] (fun w hM=>Y9 (by (try have bz_:=Yx ‹Zh x x=_›);(try have bq_:=Yv ‹fdiv _ _=_›);exact fmS)) Kr Kr (TL.run 15 [] [(0,.fl x),(3,.fl r1),(20,.fl (pQ35 r1)),(21,.fl r1)] rfl {} (ZW (sV (binOp .add 215 (.fl r1) (.fl 4627690253511319612))) (some 22) (.fl (Zk r1 4627690253511319612)) [(0,.fl x),(3,.fl r1),(20,.fl (pQ35 r1)),(22,.fl (Zk r1 4627690253511319612))] (fun w hM=>Xn (by (try have bz_:=Yx ‹Zh x x=_›);(try have bq_:=Yv ‹fdiv _ _=_›);exact faS)) Kr Kr (TL.run 17 [] [(0,.fl x),(3,.fl r1),(20,.fl (pQ35 r1)),(22,.fl (Zk r1 4627690253511319612)),(23,.fl r1)] rfl {} (ZW (sV (binOp .mul 215 (.fl (Zk r1 4627690253511319612)) (.fl r1))) (some 24) (.fl (Zh (Zk r1 4627690253511319612) r1)) [(0,.fl x),(3,.fl r1),(20,.fl (pQ35 r1)),(24,.fl (Zh (Zk r1 4627690253511319612) r1))] (fun w hM=>Y9 (by (try have bz_:=Yx ‹Zh x x=_›);(try have bq_:=Yv ‹fdiv _ _=_›);exact fmS)) Kr Kr (ZW (sV (binOp .add 215 (.fl (Zh (Zk r1 4627690253511319612) r1)) (.fl 4640010388282866213))) (some 25) (.fl (pQ7 r1)) [(0,.fl x),(3,.fl r1),(20,.fl (pQ35 r1)),(25,.fl (pQ7 r1))] (fun w hM=>Xn (by (try have bz_:=Yx ‹Zh x x=_›);(try have bq_:=Yv ‹fdiv _ _=_›);exact faS)) Kr Kr (TL.run 20 [] [(0,.fl x),(3,.fl r1),(20,.fl (pQ35 r1)),(25,.fl (pQ7 r1)),(26,.fl r1)] rfl {} (ZW (sV (binOp .mul 215 (.fl (pQ7 r1)) (.fl r1))) (some 27) (.fl (pQ12 r1)) [(0,.fl x),(3,.fl r1),(20,.fl (pQ35 r1)),(27,.fl (pQ12 r1))] (fun w hM=>Y9 (by (try have bz_:=Yx ‹Zh x x=_›);(try have bq_:=Yv ‹fdiv _ _=_›);exact fmS)) Kr Kr (ZW (sV (binOp .add 215 (.fl (pQ12 r1)) (.fl 4646322940342877755))) (some 28) (.fl (pQ16 r1)) [(0,.fl x),(3,.fl r1),(20,.fl (pQ35 r1)),(28,.fl (pQ16 r1))] (fun w hM=>Xn (by (try have bz_:=Yx ‹Zh x x=_›);(try have bq_:=Yv ‹fdiv _ _=_›);exact faS)) Kr Kr (TL.run 23 [] [(0,.fl x),(3,.fl r1),(20,.fl (pQ35 r1)),(28,.fl (pQ16 r1)),(29,.fl r1)] rfl {} (ZW (sV (binOp .mul 215 (.fl (pQ16 r1)) (.fl r1))) (some 30) (.fl (pQ20 r1)) [(0,.fl x),(3,.fl r1),(20,.fl (pQ35 r1)),(30,.fl (pQ20 r1))] (fun w hM=>Y9 (by (try have bz_:=Yx ‹Zh x x=_›);(try have bq_:=Yv ‹fdiv _ _=_›);exact fmS)) Kr Kr (ZW (sV (binOp .add 215 (.fl (pQ20 r1)) (.fl 4647246694406179306))) (some 31) (.fl (pQ24 r1)) [(0,.fl x),(3,.fl r1),(20,.fl (pQ35 r1)),(31,.fl (pQ24 r1))] (fun w hM=>Xn (by (try have bz_:=Yx ‹Zh x x=_›);(try have bq_:=Yv ‹fdiv _ _=_›);exact faS)) Kr Kr (TL.run 26 [] [(0,.fl x),(20,.fl (pQ35 r1)),(31,.fl (pQ24 r1)),(32,.fl r1)] rfl {} (ZW (sV (binOp .mul 215 (.fl (pQ24 r1)) (.fl r1))) (some 33) (.fl (pQ28 r1)) [(0,.fl x),(20,.fl (pQ35 r1)),(33,.fl (pQ28 r1))] (fun w hM=>Y9 (by (try have bz_:=Yx ‹Zh x x=_›);(try have bq_:=Yv ‹fdiv _ _=_›);exact fmS)) Kr Kr (ZW (sV (binOp .add 215 (.fl (pQ28 r1)) (.fl 4641049159275471596))) (some 34) (.fl (pQ32 r1)) [(0,.fl x),(20,.fl (pQ35 r1)),(34,.fl (pQ32 r1))] (fun w hM=>Xn (by (try have bz_:=Yx ‹Zh x x=_›);(try have bq_:=Yv ‹fdiv _ _=_›);exact faS)) Kr Kr (ZW (sV (binOp .quo 215 (.fl (pQ35 r1)) (.fl (pQ32 r1)))) (some 35) (.fl (pQ40 r1)) [(0,.fl x),(35,.fl (pQ40 r1))] (fun w hM=>UJ (by (try have bz_:=Yx ‹Zh x x=_›);(try have bq_:=Yv ‹fdiv _ _=_›);exact fdS)) Kr Kr (TL.run 30 [] [(0,.fl x),(3,.fl (pQ40 r1))] rfl {} ?_)))))))))))))))))))))))))))))
 generalize hr2:fdiv (pQ35 r1) (pQ32 r1)=r2
 refine Zz (TL.run 2 [] [(0,.fl x),(36,.fl x),(37,.fl r2)] rfl {} (ZW (sV (binOp .mul 215 (.fl x) (.fl r2))) (some 38) (.fl (Zh x r2)) [(0,.fl x),(38,.fl (Zh x r2))] (fun w hM=>Y9 (by (try have bz_:=Yx ‹Zh x x=_›);(try have bq_:=Yv ‹fdiv _ _=_›);exact fmS)) Kr Kr (TL.run 4 [] [(38,.fl (Zh x r2)),(39,.fl x)] rfl {} (ZW (sV (binOp .add 215 (.fl (Zh x r2)) (.fl x))) (some 40) (.fl (Zk (Zh x r2) x)) [(40,.fl (Zk (Zh x r2) x))] (fun w hM=>Xn (by (try have bz_:=Yx ‹Zh x x=_›);(try have bq_:=Yv ‹fdiv _ _=_›);exact faS)) Kr Kr (TL.run 6 [] [(3,.fl (Zk (Zh x r2) x))] rfl {} ?_)))))
 generalize hr3:Zk (Zh x r2) x=r3
 exact Zz (TL.run 2 [] [(2,.fl r3)] rfl {} (Zb rfl (TC.ret (ZO (.inl rfl) r3 [] (.fl r3) {} rfl (fun _ hM=>(hM.sub (sb 0)).fact (by (try have bz_:=Yx ‹Zh x x=_›);(try have bq_:=Yv ‹fdiv _ _=_›);subst hr1 hr2 hr3;(try dsimp only);first|exact(have b_:=Yv ‹Zk _ x=_›;LP b_)|exact Qz))))))
theorem WY (x:Nat) (w:World) (hM:Sat ⟨w,XR []⟩ [] w) (hx:Po 25 x):Calls Tryz.prog 237 #[.fl x] w (JH (Γ:=Nat) ⟨w,XR []⟩ (fun g=>.fl g) (fun g=>[.inr (Qm (Bd 44 g))])):=by
 refine YS (w0:=⟨w,XR []⟩) (vs:=[.fl x]) hM Tryz.func237 rfl Tryz.ntmps237 rfl (JG [(0,.fl x)] Kr (Zf (TL.run 1 [] [(0,.fl x)] rfl {} (Z1 (Zf (TL.run 2 [] [(0,.fl x),(4,.b (fle x 4604119971053405471))] rfl {} (Zb rfl (TC.cond (fle x 4604119971053405471) rfl Kr (fun h1=>?_) (fun h1=>?_)))))))))
 ·refine Zf (TL.run 1 [] [(5,.fl x)] rfl {} (Qy (Γ:=Nat) (fun g=>.fl g) (fun g=>[.inr (Qm (Bd 40 g))]) [] [] (some 6) (fun g=>[(6,.fl g)]) (fun w hM=>Gi x w hM.pass (by have i_:=FS (e:=25) (EI h1);exact Qz)) Kr (fun g=>Kr) ?_))
  rintro r_
  exact Xm [.inr (Qm (Bd 40 r_))] (fun _ hM=>hM) (Y3 (fun w hM=>hM.fact_at 0 rfl) (fun ym=>X2 [] (.cons _ (aB _)) (TL.run 3 [] [(2,.fl r_)] rfl {} (Zb rfl (TC.ret (Zo (ZO (.inl rfl) r_ [] (.fl r_) {} rfl (fun _ hM=>(hM.sub (sb 0)).fact (by (try have bq_:=‹Bd 40 _›);(try dsimp only);first|exact Qz)))))))))
 ·refine Yg (TC.seq (Zf (TL.run 2 [] [(0,.fl x),(8,.b (fgt x 4612618744449965542))] rfl {} (Zb rfl (TC.cond (fgt x 4612618744449965542) rfl Kr (fun h2=>?_) (fun h2=>?_))))))
  ·refine Zf (TL.run 1 [] [(9,.fl x)] rfl {} (ZW (sV (binOp .quo 215 (.fl 4607182418800017408) (.fl x))) (some 10) (.fl (fdiv 4607182418800017408 x)) [(10,.fl (fdiv 4607182418800017408 x))] (fun w hM=>UJ (by have i_:=LO (e:=25) (by decide) h2;exact fdS)) Kr Kr (Qy (Γ:=Nat) (fun g=>.fl g) (fun g=>[.inr (Qm (Bd 40 g))]) [] [] (some 11) (fun g=>[(11,.fl g)]) (fun w hM=>Gi (fdiv 4607182418800017408 x) w hM.pass (by have i_:=LO (e:=25) (by decide) h2;exact LP Oy)) Kr (fun g=>Kr) ?_)))
   rintro wg
   exact Xm [.inr (Qm (Bd 40 wg))] (fun _ hM=>hM) (Y3 (fun w hM=>hM.fact_at 0 rfl) (fun ym=>X2 [] (.cons _ (aB _)) (ZW (sV (binOp .sub 215 (.fl 4609753056924675352) (.fl wg))) (some 12) (.fl (YH 4609753056924675352 wg)) [(12,.fl (YH 4609753056924675352 wg))] (fun w hM=>Ud (by (try have bq_:=‹Bd 40 _›);exact fsS)) Kr Kr (ZW (sV (binOp .add 215 (.fl (YH 4609753056924675352 wg)) (.fl 4364452196894661639))) (some 13) (.fl (pQ0 wg)) [(13,.fl (pQ0 wg))] (fun w hM=>Xn (by (try have bq_:=‹Bd 40 _›);exact faS)) Kr Kr (TL.run 6 [] [(2,.fl (pQ0 wg))] rfl {} (Zb rfl (TC.ret (Zo (ZO (.inl rfl) (pQ0 wg) [] (.fl (pQ0 wg)) {} rfl (fun _ hM=>(hM.sub (sb 0)).fact (by (try have bq_:=‹Bd 40 _›);(try dsimp only);first|exact Qz)))))))))))
  ·refine Yc (TL.run 1 [] [(0,.fl x),(14,.fl x)] rfl {} (ZW (sV (binOp .sub 215 (.fl x) (.fl 4607182418800017408))) (some 15) (.fl (YH x 4607182418800017408)) [(0,.fl x),(15,.fl (YH x 4607182418800017408))] (fun w hM=>Ud (by (try have bq_:=‹Bd 40 _›);exact fsS)) Kr Kr (TL.run 3 [] [(15,.fl (YH x 4607182418800017408)),(16,.fl x)] rfl {} (ZW (sV (binOp .add 215 (.fl x) (.fl 4607182418800017408))) (some 17) (.fl (Zk x 4607182418800017408)) [(15,.fl (YH x 4607182418800017408)),(17,.fl (Zk x 4607182418800017408))] (fun w hM=>Xn (by (try have bq_:=‹Bd 40 _›);exact faS)) Kr Kr (ZW (sV (binOp .quo 215 (.fl (YH x 4607182418800017408)) (.fl (Zk x 4607182418800017408)))) (some 18) (.fl (pQ11 x)) [(18,.fl (pQ11 x))] (fun w hM=>UJ (by (try have bq_:=‹Bd 40 _›);exact fdS)) Kr Kr (Qy (Γ:=Nat) (fun g=>.fl g) (fun g=>[.inr (Qm (Bd 40 g))]) [] [] (some 19) (fun g=>[(19,.fl g)]) (fun w hM=>Gi (pQ11 x) w hM.pass (by have i_:=FS (e:=25) h2;exact LP (Oy (e:=3)))) Kr (fun g=>Kr) ?_))))))
   rintro jz
   exact Xm [.inr (Qm (Bd 40 jz))] (fun _ hM=>hM) (Y3 (fun w hM=>hM.fact_at 0 rfl) (fun ym=>X2 [] (.cons _ (aB _)) (ZW (sV (binOp .add 215 (.fl 4605249457297304856) (.fl jz))) (some 20) (.fl (Zk 4605249457297304856 jz)) [(20,.fl (Zk 4605249457297304856 jz))] (fun w hM=>Xn (by (try have bq_:=‹Bd 40 _›);exact faS)) Kr Kr (ZW (sV (binOp .add 215 (.fl (Zk 4605249457297304856 jz)) (.fl 4359948597267291143))) (some 21) (.fl (pQ1 jz)) [(21,.fl (pQ1 jz))] (fun w hM=>Xn (by (try have bq_:=‹Bd 40 _›);exact faS)) Kr Kr (TL.run 9 [] [(2,.fl (pQ1 jz))] rfl {} (Zb rfl (TC.ret (ZO (.inl rfl) (pQ1 jz) [] (.fl (pQ1 jz)) {} rfl (fun _ hM=>(hM.sub (sb 0)).fact (by (try have bq_:=‹Bd 40 _›);(try dsimp only);first|exact Qz))))))))))
theorem LQ (x:Nat) (w:World) (hM:Sat ⟨w,XR []⟩ [] w) (hx:Bd 25 x):Calls Tryz.prog 226 #[.fl x] w (JH (Γ:=Nat) ⟨w,XR []⟩ (fun g=>.fl g) (fun g=>[.inr (Qm (Bd 44 g))])):=by
 refine YS (w0:=⟨w,XR []⟩) (vs:=[.fl x]) hM Tryz.func226 rfl Tryz.ntmps226 rfl (JG [(0,.fl x)] Kr (Zf (TL.run 1 [] [(0,.fl x)] rfl {} (Z1 (Zf (TL.run 2 [] [(0,.fl x),(4,.b (feq x 0))] rfl {} (Zb rfl (TC.cond (feq x 0) rfl Kr (fun h1=>?_) (fun h1=>?_)))))))))
 ·exact Zf (TL.run 2 [] [(2,.fl x)] rfl {} (Zb rfl (TC.ret (Zo (ZO (.inl rfl) x [] (.fl x) {} rfl (fun _ hM=>(hM.sub (sb 0)).fact (by (try have bq_:=‹Bd 44 _›);(try dsimp only);first|exact Qz)))))))
 ·refine Yg (TC.seq (Zf (TL.run 2 [] [(0,.fl x),(7,.b (fgt x 0))] rfl {} (Zb rfl (TC.cond (fgt x 0) rfl Kr (fun h2=>?_) (fun h2=>?_))))))
  ·refine Zf (TL.run 1 [] [(8,.fl x)] rfl {} (Qy (Γ:=Nat) (fun g=>.fl g) (fun g=>[.inr (Qm (Bd 44 g))]) [] [] (some 9) (fun g=>[(9,.fl g)]) (fun w hM=>WY x w hM.pass (O6 h2)) Kr (fun g=>Kr) ?_))
   rintro r_
   exact Xm [.inr (Qm (Bd 44 r_))] (fun _ hM=>hM) (Y3 (fun w hM=>hM.fact_at 0 rfl) (fun pd=>X2 [] (.cons _ (aB _)) (TL.run 3 [] [(2,.fl r_)] rfl {} (Zb rfl (TC.ret (Zo (ZO (.inl rfl) r_ [] (.fl r_) {} rfl (fun _ hM=>(hM.sub (sb 0)).fact (by (try have bq_:=‹Bd 44 _›);(try dsimp only);first|exact Qz)))))))))
  ·refine Yc (TL.run 2 [] [(11,.fl (We x))] rfl {} (Qy (Γ:=Nat) (fun g=>.fl g) (fun g=>[.inr (Qm (Bd 44 g))]) [] [] (some 12) (fun g=>[(12,.fl g)]) (fun w hM=>WY (We x) w hM.pass (SN h1 h2)) Kr (fun g=>Kr) ?_))
   rintro wg
   exact Xm [.inr (Qm (Bd 44 wg))] (fun _ hM=>hM) (Y3 (fun w hM=>hM.fact_at 0 rfl) (fun pd=>X2 [] (.cons _ (aB _)) (TL.run 5 [] [(2,.fl (We wg))] rfl {} (Zb rfl (TC.ret (ZO (.inl rfl) (We wg) [] (.fl (We wg)) {} rfl (fun _ hM=>(hM.sub (sb 0)).fact (by (try have bq_:=‹Bd 44 _›);(try dsimp only);first|exact Qz))))))))
theorem LR (x:Nat) (w:World) (hM:Sat ⟨w,XR []⟩ [] w) (hx:Bd 25 x):Calls Tryz.prog 199 #[.fl x] w (JH (Γ:=Nat) ⟨w,XR []⟩ (fun g=>.fl g) (fun g=>[.inr (Qm (Bd 44 g))])):=by
 refine YS (w0:=⟨w,XR []⟩) (vs:=[.fl x]) hM Tryz.func199 rfl Tryz.ntmps199 rfl (JG [(0,.fl x)] Kr (Zf (TL.run 1 [] [(0,.fl x)] rfl {} (Z1 (J1 rfl Kr (Yc (TL.run 1 [] [(5,.fl x)] rfl {} (Qy (Γ:=Nat) (fun g=>.fl g) (fun g=>[.inr (Qm (Bd 44 g))]) [] [] (some 6) (fun g=>[(6,.fl g)]) (fun w hM=>LQ x w hM.pass hx) Kr (fun g=>Kr) ?_))))))))
 rintro r_
 exact Xm [.inr (Qm (Bd 44 r_))] (fun _ hM=>hM) (Y3 (fun w hM=>hM.fact_at 0 rfl) (fun gi=>X2 [] (.cons _ (aB _)) (TL.run 3 [] [(2,.fl r_)] rfl {} (Zb rfl (TC.ret (ZO (.inl rfl) r_ [] (.fl r_) {} rfl (fun _ hM=>(hM.sub (sb 0)).fact (by (try dsimp only);first|exact gi))))))))
theorem D2 {e x:Nat} [h:Bd e x] (he:e≤1000:=by decide):Ku x=false:=O4 he
theorem Gj {c y e f:Nat} [h:Bd e c] (hc:c<18446744073709551616) (hy:y<18446744073709551616) (hf:e≤f:=by decide):Bd f (XA c y):=by
 have e1:∃ n:Nat,n%9223372036854775808=c%9223372036854775808∧XA c y=n:=by
  unfold XA
  rw[HW hc]
  have f1:=SI (a:=y) (b:=9223372036854775808) hy (by decide)
  rw[show (((9223372036854775808:Nat)):Int)=9223372036854775808 from rfl] at f1
  have l1:y &&& 9223372036854775808=y/9223372036854775808*9223372036854775808:=by
   have hb:y/9223372036854775808<2:=by omega
   apply Nat.eq_of_testBit_eq
   intro i
   rw[show y/9223372036854775808*9223372036854775808=2 ^ 63*(y/2 ^ 63) from eI _ _,show (9223372036854775808:Nat)=2 ^ 63 from rfl,Nat.testBit_and,Nat.testBit_two_pow,Nat.testBit_two_pow_mul,Nat.testBit_div_two_pow]
   rcases gR i 63 with h3|h3|h3
   ·simp[show ¬ 63=i by omega,show ¬ i≥63 by omega]
   ·subst h3;simp
   ·have h4:y.testBit i=false:=Nat.testBit_lt_two_pow (bV hy (by have:=cC (show 0<2 by decide) (show 64≤i by omega);exact this))
    simp[show i-63+63=i by omega,h4]
  rw[f1,Ou (by omega) (by rw[l1];omega),l1]
  refine⟨c%9223372036854775808 ||| y/9223372036854775808*9223372036854775808,?_,aO _⟩
  rw[Nat.or_comm,eI,show (9223372036854775808:Nat)=2 ^ 63 from rfl,← Nat.two_pow_add_eq_or_of_lt (fE _ (by decide))]
  omega
 obtain⟨n,h1,h2⟩:=e1
 rw[h2]
 exact LP (O9 (y:=c) h1) hf
set_option maxHeartbeats 4000000 in
theorem NZ (y:Nat) (x:Nat) (w:World) (hM:Sat ⟨w,XR []⟩ [] w) (hy:IsI y) (hx:IsI x):Calls Tryz.prog 164 #[.fl y,.fl x] w (JH (Γ:=Nat) ⟨w,XR []⟩ (fun g=>.fl g) (fun g=>[.inr (Qm (Bd 46 g))])):=by
 refine YS (w0:=⟨w,XR []⟩) (vs:=[.fl y,.fl x]) hM Tryz.func164 rfl Tryz.ntmps164 rfl (JG [(0,.fl y),(1,.fl x)] Kr (Zf (TL.run 1 [] [(0,.fl y),(1,.fl x)] rfl {} (Z1 (TC.block (Zf (TL.run 1 [] [(0,.fl y),(1,.fl x),(7,.fl y)] rfl {} (TL.call (some 8) [(0,.fl y),(1,.fl x),(8,.b ((Ku y)))] (fun w _=>Gg y w) Kr Kr ?_))))))))
 generalize hr1:Ku y=r1
 refine TL.run 3 [] [(0,.fl y),(1,.fl x),(9,.b r1)] rfl {} (Yy 9 r1 Kr (fun h1=>?_) (fun h1=>?_))
 ·exact((by have i_:=QX hy;rw[← hr1,D2] at h1;cases h1):False).elim
 ·refine TL.run 4 [] [(0,.fl y),(1,.fl x),(9,.b false),(10,.fl x)] rfl {} (TL.call (some 11) [(0,.fl y),(1,.fl x),(9,.b false),(11,.b ((Ku x)))] (fun w _=>Gg x w) Kr Kr ?_)
  generalize hr2:Ku x=r2
  refine TL.run 7 [] [(0,.fl y),(1,.fl x),(6,.b r2)] rfl {} (Zb rfl (TC.cond r2 rfl Kr (fun h2=>?_) (fun h2=>?_)))
  ·exact((by have i_:=QX hx;rw[← hr2,D2] at h2;cases h2):False).elim
  ·refine Zf (TL.run 3 [] [(0,.fl y),(1,.fl x),(14,.b (feq y 0))] rfl {} (Zb rfl (TC.cond (feq y 0) rfl Kr (fun h3=>?_) (fun h3=>?_))))
   ·refine TC.seq (Zf (TL.run 3 [] [(0,.fl y),(1,.fl x),(19,.b (fge x 0))] rfl {} (Yy 19 (fge x 0) Kr (fun h4=>?_) (fun h4=>?_))))
    ·refine TL.run 4 [] [(0,.fl y),(19,.b true),(20,.fl x)] rfl {} (TL.call (some 21) [(0,.fl y),(19,.b true),(21,.b ((VO x)))] (fun w _=>D1 x w) Kr Kr ?_)
     generalize hr3:VO x=r3
     refine TL.run 7 [] [(0,.fl y),(23,.b (!r3))] rfl {} (Zb rfl (TC.cond (!r3) rfl Kr (fun h5=>?_) (fun h5=>?_)))
     ·refine Zf (TL.run 1 [] [(24,.fl y)] rfl {} (TL.call (some 25) [(25,.fl (XA 0 y))] (fun w _=>KY 0 y w) Kr Kr ?_))
      generalize hr4:XA 0 y=r4
      refine TL.run 3 [] [(4,.fl r4)] rfl {} (Zb rfl (TC.ret (Zo (ZL (Zo ?_)))))
      exact ZO (.inl rfl) r4 [] (.fl r4) {} rfl (fun _ hM=>(hM.sub (sb 0)).fact (by have by_:=QX hy;have bx_:=QX hx;(try have bq_:=‹Bd 44 _›);subst hr1 hr2 hr3 hr4;(try dsimp only);first|exact Gj (by decide) (Gf hy)|exact Qz))
     ·refine Yc (TL.run 1 [] [(26,.fl y)] rfl {} (TL.call (some 27) [(27,.fl (XA 4614256656552045848 y))] (fun w _=>KY 4614256656552045848 y w) Kr Kr ?_))
      generalize hr5:XA 4614256656552045848 y=r5
      refine TL.run 3 [] [(4,.fl r5)] rfl {} (Zb rfl (TC.ret (ZL (Zo ?_))))
      exact ZO (.inl rfl) r5 [] (.fl r5) {} rfl (fun _ hM=>(hM.sub (sb 0)).fact (by have by_:=QX hy;have bx_:=QX hx;(try have bq_:=‹Bd 44 _›);subst hr1 hr2 hr3 hr5;(try dsimp only);first|exact Gj (by decide) (Gf hy)|exact Qz))
    ·refine TL.run 7 [] [(0,.fl y),(23,.b false)] rfl {} (Zb rfl (J1 rfl Kr (Yc (TL.run 1 [] [(26,.fl y)] rfl {} (TL.call (some 27) [(27,.fl (XA 4614256656552045848 y))] (fun w _=>KY 4614256656552045848 y w) Kr Kr ?_)))))
     generalize hr6:XA 4614256656552045848 y=r6
     refine TL.run 3 [] [(4,.fl r6)] rfl {} (Zb rfl (TC.ret (ZL (Zo ?_))))
     exact ZO (.inl rfl) r6 [] (.fl r6) {} rfl (fun _ hM=>(hM.sub (sb 0)).fact (by have by_:=QX hy;have bx_:=QX hx;(try have bq_:=‹Bd 44 _›);subst hr1 hr2 hr6;(try dsimp only);first|exact Gj (by decide) (Gf hy)|exact Qz))
   ·refine Zf (TL.run 3 [] [(0,.fl y),(1,.fl x),(28,.b (feq x 0))] rfl {} (Zb rfl (TC.cond (feq x 0) rfl Kr (fun h6=>?_) (fun h6=>?_))))
    ·refine Zf (TL.run 1 [] [(31,.fl y)] rfl {} (TL.call (some 32) [(32,.fl (XA 4609753056924675352 y))] (fun w _=>KY 4609753056924675352 y w) Kr Kr ?_))
     generalize hr7:XA 4609753056924675352 y=r7
     refine TL.run 3 [] [(4,.fl r7)] rfl {} (Zb rfl (TC.ret (ZL (Zo ?_))))
     exact ZO (.inl rfl) r7 [] (.fl r7) {} rfl (fun _ hM=>(hM.sub (sb 0)).fact (by have by_:=QX hy;have bx_:=QX hx;(try have bq_:=‹Bd 44 _›);subst hr1 hr2 hr7;(try dsimp only);first|exact Gj (by decide) (Gf hy)|exact Qz))
    ·refine Zf (TL.run 1 [] [(0,.fl y),(1,.fl x),(34,.fl x)] rfl {} (Qy (Γ:=Bool) (fun g=>.b g) (fun g=>[.inr (Qm (g=false))]) [] [] (some 35) (fun g=>[(0,.fl y),(1,.fl x),(35,.b g)]) (fun w hM=>Gh x 0 w hM.pass rfl (QX hx) (Gf hx)) Kr (fun g=>Kr) ?_))
     rintro r_
     refine Xm [.inr (Qm (r_=false))] (fun _ hM=>hM) (Y3 (fun w hM=>hM.fact_at 0 rfl) (fun j9=>X2 [] (.cons _ (aB _)) (TL.run 3 [] [(0,.fl y),(1,.fl x),(33,.b r_)] rfl {} (Zb rfl (TC.cond r_ rfl Kr (fun h7=>?_) (fun h7=>?_))))))
     ·exact((by rw[j9] at h7;cases h7):False).elim
     ·refine Zf (TL.run 1 [] [(0,.fl y),(1,.fl x),(53,.fl y)] rfl {} (Qy (Γ:=Bool) (fun g=>.b g) (fun g=>[.inr (Qm (g=false))]) [] [] (some 54) (fun g=>[(0,.fl y),(1,.fl x),(54,.b g)]) (fun w hM=>Gh y 0 w hM.pass rfl (QX hy) (Gf hy)) Kr (fun g=>Kr) ?_))
      rintro wg
      refine Xm [.inr (Qm (wg=false))] (fun _ hM=>hM) (Y3 (fun w hM=>hM.fact_at 0 rfl) (fun j9=>X2 [] (.cons _ (aB _)) (TL.run 3 [] [(0,.fl y),(1,.fl x),(52,.b wg)] rfl {} (Zb rfl (TC.cond wg rfl Kr (fun h8=>?_) (fun h8=>?_))))))
      ·exact((by rw[j9] at h8;cases h8):False).elim
      ·refine TC.skip (ZY (YC (TL.run 2 [] [(1,.fl x),(57,.fl y),(58,.fl x)] rfl {} (ZW (sV (binOp .quo 215 (.fl y) (.fl x))) (some 59) (.fl (fdiv y x)) [(1,.fl x),(59,.fl (fdiv y x))] (fun w hM=>UJ (by have by_:=QX hy;have bx_:=QX hx;(try have bq_:=‹Bd 44 _›);subst hr1 hr2;have i_:=O8 hx h6;exact fdS)) Kr Kr (Qy (Γ:=Nat) (fun g=>.fl g) (fun g=>[.inr (Qm (Bd 44 g))]) [] [] (some 60) (fun g=>[(1,.fl x),(60,.fl g)]) (fun w hM=>LR (fdiv y x) w hM.pass (by have by_:=QX hy;have bx_:=QX hx;(try have bq_:=‹Bd 44 _›);subst hr1 hr2;have i_:=O8 hx h6;exact Qz)) Kr (fun g=>Kr) ?_)))))
       rintro jz
       refine Xm [.inr (Qm (Bd 44 jz))] (fun _ hM=>hM) (Y3 (fun w hM=>hM.fact_at 0 rfl) (fun tf=>X2 [] (.cons _ (aB _)) (TL.run 5 [] [(1,.fl x),(5,.fl jz)] rfl {} (Z1 (Zf (TL.run 2 [] [(5,.fl jz),(62,.b (flt x 0))] rfl {} (Zb rfl (TC.cond (flt x 0) rfl Kr (fun h9=>?_) (fun h9=>?_)))))))))
       ·refine TC.seq (Zf (TL.run 2 [] [(5,.fl jz),(64,.b (fle jz 0))] rfl {} (Zb rfl (TC.cond (fle jz 0) rfl Kr (fun h10=>?_) (fun h10=>?_)))))
        ·refine Zf (TL.run 1 [] [(65,.fl jz)] rfl {} (ZW (sV (binOp .add 215 (.fl jz) (.fl 4614256656552045848))) (some 66) (.fl (Zk jz 4614256656552045848)) [(66,.fl (Zk jz 4614256656552045848))] (fun w hM=>Xn (by have by_:=QX hy;have bx_:=QX hx;(try have bq_:=‹Bd 44 _›);exact faS)) Kr Kr (TL.run 3 [] [(4,.fl (Zk jz 4614256656552045848))] rfl {} (Zb rfl (TC.ret (Zo (Zo ?_)))))))
         exact ZO (.inl rfl) (Zk jz 4614256656552045848) [] (.fl (Zk jz 4614256656552045848)) {} rfl (fun _ hM=>(hM.sub (sb 0)).fact (by have by_:=QX hy;have bx_:=QX hx;(try have bq_:=‹Bd 44 _›);subst hr1 hr2;(try dsimp only);first|exact Gj (by decide) (Gf hy)|exact Qz))
        ·exact Yc (TL.run 1 [] [(67,.fl jz)] rfl {} (ZW (sV (binOp .sub 215 (.fl jz) (.fl 4614256656552045848))) (some 68) (.fl (YH jz 4614256656552045848)) [(68,.fl (YH jz 4614256656552045848))] (fun w hM=>Ud (by have by_:=QX hy;have bx_:=QX hx;(try have bq_:=‹Bd 44 _›);exact fsS)) Kr Kr (TL.run 3 [] [(4,.fl (YH jz 4614256656552045848))] rfl {} (Zb rfl (TC.ret (Zo (ZO (.inl rfl) (YH jz 4614256656552045848) [] (.fl (YH jz 4614256656552045848)) {} rfl (fun _ hM=>(hM.sub (sb 0)).fact (by have by_:=QX hy;have bx_:=QX hx;(try have bq_:=‹Bd 44 _›);subst hr1 hr2;(try dsimp only);first|exact Gj (by decide) (Gf hy)|exact Qz)))))))))
       ·exact Yc (TL.run 2 [] [(4,.fl jz)] rfl {} (Zb rfl (TC.ret (ZO (.inl rfl) jz [] (.fl jz) {} rfl (fun _ hM=>(hM.sub (sb 0)).fact (by have by_:=QX hy;have bx_:=QX hx;(try have bq_:=‹Bd 44 _›);subst hr1 hr2;(try dsimp only);first|exact Gj (by decide) (Gf hy)|exact Qz))))))
theorem Mc (y:Nat) (x:Nat) (w:World) (hM:Sat ⟨w,XR []⟩ [] w) (hy:IsI y) (hx:IsI x):Calls Tryz.prog 130 #[.fl y,.fl x] w (JH (Γ:=Nat) ⟨w,XR []⟩ (fun g=>.fl g) (fun g=>[.inr (Qm (Bd 46 g))])):=by
 refine YS (w0:=⟨w,XR []⟩) (vs:=[.fl y,.fl x]) hM Tryz.func130 rfl Tryz.ntmps130 rfl (JG [(0,.fl y),(1,.fl x)] Kr (Zf (TL.run 1 [] [(0,.fl y),(1,.fl x)] rfl {} (Z1 (J1 rfl Kr (Yc (TL.run 2 [] [(8,.fl y),(9,.fl x)] rfl {} (Qy (Γ:=Nat) (fun g=>.fl g) (fun g=>[.inr (Qm (Bd 46 g))]) [] [] (some 10) (fun g=>[(10,.fl g)]) (fun w hM=>NZ y x w hM.pass sg sg) Kr (fun g=>Kr) ?_))))))))
 rintro r_
 exact Xm [.inr (Qm (Bd 46 r_))] (fun _ hM=>hM) (Y3 (fun w hM=>hM.fact_at 0 rfl) (fun pe=>X2 [] (.cons _ (aB _)) (TL.run 4 [] [(4,.fl r_)] rfl {} (Zb rfl (TC.ret (ZO (.inl rfl) r_ [] (.fl r_) {} rfl (fun _ hM=>(hM.sub (sb 0)).fact (by (try dsimp only);first|exact pe))))))))
end Go.Sky
end
section
namespace Go.Sky
open Go Go.Eng
abbrev pQ2 (a:Nat):Nat:=YH 4607182418800017408 (Zh 4602678819172646912 a)
def Ap:List Nat:=[4460209587652500685,13716528389658582877,4523617212962785441,13774824197404483331,4575957461383575504,13818544856648471880]
def Aq:List Nat:=[13666448263388469915,4477121864728985349,13732177093698800582,4537941361668146421,13787419979223748497,4586165620538955083]
def Bm (x:Nat):Int:=f2i (Zh x 4608412980311869571)
def C3 (x:Nat):Bool:=ZZ .u64 (Bm x) 1==1
def LS (x:Nat):Int:=bif C3 x then YI (Bm x+1) else Bm x
def Bn (x:Nat):Nat:=bif C3 x then Zk (dbl (Bm x)) 4607182418800017408 else dbl (Bm x)
def Md (x:Nat):Int:=ZZ .u64 (LS x) 7
def Bo (x:Nat):Nat:=YH (YH (YH x (Zh (Bn x) 4605249456957292544)) (Zh (Bn x) 4495793288086814720)) (Zh (Bn x) 4388835458085048688)
def EK (a b c d e f z:Nat):Nat:=Zk (Zh (Zk (Zh (Zk (Zh (Zk (Zh (Zk (Zh a z) b) z) c) z) d) z) e) z) f
def EL (z zz:Nat):Nat:=Zk z (Zh (Zh z zz) (EK 4460209587652500685 13716528389658582877 4523617212962785441 13774824197404483331 4575957461383575504 13818544856648471880 zz))
def EM (zz:Nat):Nat:=Zk (pQ2 zz) (Zh (Zh zz zz) (EK 13666448263388469915 4477121864728985349 13732177093698800582 4537941361668146421 13787419979223748497 4586165620538955083 zz))
def WZ (j:Int) (z:Nat):Nat:=bif j==1||j==2 then EM (Zh z z) else EL z (Zh z z)
def HA (x:Nat):Nat :=
 bif feq x 0 then x
 else bif decide (Md x>3) then We (WZ (YI (Md x-4)) (Bo x)) else WZ (Md x) (Bo x)
def IK (n:Nat):Nat:=fdiv (Zh (dbl (n:Int)) 4614256656552045848) 4656722014701092864
structure G8 (w:World):Prop where
 «1»:C0 w 1 Aq
 «2»:C0 w 2 Ap
theorem G8.sat {w0 w:World} {D:Nat→Prop} {M:Mem} (h:G8 w0) (hM:Sat ⟨w0,D⟩ M w) (hD1:¬ D 1:=by first|exact(fun h=>h)|exact NW) (hD2:¬ D 2:=by first|exact(fun h=>h)|exact NW):G8 w :=
 ⟨h.1.sat hM hD1,h.2.sat hM hD2⟩
end Go.Sky
end
section
namespace Go.Sky
open Go Go.Eng Go.Proofs
abbrev pQ3 (a:Nat):Nat:=Zk (Zh 13666448263388469915 a) 4477121864728985349
abbrev pQ4 (a:Nat):Nat:=Zk (Zh 4460209587652500685 a) 13716528389658582877
abbrev pQ8 (a:Nat):Nat:=Zh (pQ3 a) a
abbrev pQ9 (a:Nat):Nat:=Zh (pQ4 a) a
abbrev pQ13 (a:Nat):Nat:=Zk (pQ9 a) 4523617212962785441
abbrev pQ14 (a:Nat):Nat:=Zk (pQ8 a) 13732177093698800582
abbrev pQ17 (a:Nat):Nat:=Zh (pQ13 a) a
abbrev pQ18 (a:Nat):Nat:=Zh (pQ14 a) a
abbrev pQ21 (a:Nat):Nat:=Zk (pQ18 a) 4537941361668146421
abbrev pQ22 (a:Nat):Nat:=Zk (pQ17 a) 13774824197404483331
abbrev pQ25 (a:Nat):Nat:=Zh (pQ21 a) a
abbrev pQ26 (a:Nat):Nat:=Zh (pQ22 a) a
abbrev pQ29 (a:Nat):Nat:=Zk (pQ26 a) 4575957461383575504
abbrev pQ30 (a:Nat):Nat:=Zk (pQ25 a) 13787419979223748497
abbrev pQ33 (a:Nat):Nat:=Zh (pQ29 a) a
abbrev pQ34 (a:Nat):Nat:=Zh (pQ30 a) a
abbrev pQ36 (a:Nat):Nat:=Zk (pQ34 a) 4586165620538955083
abbrev pQ37 (a:Nat):Nat:=Zk (pQ33 a) 13818544856648471880
abbrev pQ38 (a:Nat):Nat:=Zh (Zh a a) (pQ36 a)
abbrev pQ39 (a:Nat):Nat:=Zk (pQ2 a) (pQ38 a)
theorem Ar {x:Nat} [h:Po 14 x]:0≤Bm x∧(Bm x).natAbs≤2 ^ 15:=IH (e:=15)
theorem Me {x:Nat} [h:Po 14 x]:Po 16 (dbl (f2i (Zh x 4608412980311869571))):=by
 have s:=Ar (x:=x)
 exact O1 16 (show (Bm x).natAbs<2 ^ 16 by have:=s.2;omega) s.1
theorem As {x:Nat} [h:Po 14 x] (h2:ZZ .u64 (f2i (Zh x 4608412980311869571)) 1=1):YI (f2i (Zh x 4608412980311869571)+1)=LS x∧Zk (dbl (f2i (Zh x 4608412980311869571))) 4607182418800017408=Bn x∧Po 17 (Zk (dbl (f2i (Zh x 4608412980311869571))) 4607182418800017408):=by
 have o:C3 x=true:=by unfold C3 Bm;rw[h2];rfl
 refine⟨by unfold LS;rw[o];rfl,by unfold Bn;rw[o];rfl,?_⟩
 have i_:=Me (x:=x)
 exact NV
theorem Au {x:Nat} [h:Po 14 x] (h2:¬ ZZ .u64 (f2i (Zh x 4608412980311869571)) 1=1):f2i (Zh x 4608412980311869571)=LS x∧dbl (f2i (Zh x 4608412980311869571))=Bn x∧Po 17 (dbl (f2i (Zh x 4608412980311869571))):=by
 have o:C3 x=false:=by unfold C3 Bm;exact beq_false_of_ne h2
 refine⟨by unfold LS;rw[o];rfl,by unfold Bn;rw[o];rfl,?_⟩
 exact O7 (Me (x:=x))
theorem IL {x:Nat} (h:feq x 0=true):x=HA x:=by unfold HA;rw[h];rfl
def Fq (x:Nat):Bool:=decide (Md x>3)
def Uh (x:Nat):Int:=bif Fq x then YI (Md x-4) else Md x
theorem TK {x:Nat} (h:feq x 0=false):HA x=bif Fq x then We (WZ (Uh x) (Bo x)) else WZ (Uh x) (Bo x):=by
 unfold HA Uh Fq;rw[h]
 cases decide (Md x>3) <;> rfl
theorem Av {x:Nat} {j:Int} (hj:j=LS x) (h:ZZ .u64 j 7>3):true=Fq x∧YI (ZZ .u64 j 7-4)=Uh x:=by
 subst hj
 have o:Fq x=true:=decide_eq_true h
 exact⟨o.symm,by unfold Uh;rw[o];rfl⟩
theorem Aw {x:Nat} {j:Int} (hj:j=LS x) (h:¬ ZZ .u64 j 7>3):false=Fq x∧ZZ .u64 j 7=Uh x:=by
 subst hj
 have o:Fq x=false:=decide_eq_false h
 exact⟨o.symm,by unfold Uh;rw[o];rfl⟩
theorem q_T {x y0 z zz:Nat} {j:Int} (hj:j=Uh x) (h0:y0=Bn x) (hz:YH (YH (YH x (Zh y0 4605249456957292544)) (Zh y0 4495793288086814720)) (Zh y0 4388835458085048688)=z) (hzz:Zh z z=zz) (h:(j==1||j==2)=true):EM zz=WZ (Uh x) (Bo x):=by
 subst h0 hz hzz hj
 unfold WZ;rw[h];rfl
theorem q_F {x y0 z zz:Nat} {j:Int} (hj:j=Uh x) (h0:y0=Bn x) (hz:YH (YH (YH x (Zh y0 4605249456957292544)) (Zh y0 4495793288086814720)) (Zh y0 4388835458085048688)=z) (hzz:Zh z z=zz) (h:(j==1||j==2)=false):EL z zz=WZ (Uh x) (Bo x):=by
 subst h0 hz hzz hj
 unfold WZ;rw[h];rfl
theorem IM {x y:Nat} {s:Bool} (h:feq x 0=false) (hs:s=Fq x) (h1:s=true) (hy:y=WZ (Uh x) (Bo x)):We y=HA x:=by
 subst hy
 rw[TK h,← hs,h1];rfl
theorem IP {x y:Nat} {s:Bool} (h:feq x 0=false) (hs:s=Fq x) (h1:s=false) (hy:y=WZ (Uh x) (Bo x)):y=HA x:=by
 subst hy
 rw[TK h,← hs,h1];rfl
set_option maxHeartbeats 4000000 in
theorem C4 (x:Nat) (w:World) (hM:Sat ⟨w,XR []⟩ [] w) (hx:Po 14 x) (hl:x<18446744073709551616) (hT:G8 w):Calls Tryz.prog 218 #[.fl x] w (JH (Γ:=Nat) ⟨w,XR []⟩ (fun g=>.fl g) (fun g=>[.inr (Qm (g=HA x))])):=by
 refine YS (w0:=⟨w,XR []⟩) (vs:=[.fl x]) hM Tryz.func218 rfl Tryz.ntmps218 rfl (JG [(0,.fl x)] Kr (Zf (TL.run 1 [] [(0,.fl x)] rfl {} (Z1 (TC.block (Zf (TL.run 3 [] [(0,.fl x),(11,.b (feq x 0))] rfl {} (Yy 11 (feq x 0) Kr (fun h1=>?_) (fun h1=>?_)))))))))
 ·refine TL.run 7 [] [(0,.fl x),(8,.b true)] rfl {} (Zb rfl (Xg rfl Kr (Zf (TL.run 2 [] [(2,.fl x)] rfl {} (Zb rfl (TC.ret (ZL (Zo ?_))))))))
  exact ZO (.inl rfl) x [] (.fl x) {} rfl (fun _ hM=>(hM.sub (sb 0)).fact (by (try have by_:=hm4.2.2);(try have bz_:=Yv hr2);(try have jd:=Yx hr3);(try dsimp only);first|exact IL h1|exact IM h1 hm5.1 (by assumption) hm6|exact IP h1 hm5.1 (by assumption) hm6))
 ·refine TL.run 4 [] [(0,.fl x),(11,.b false),(12,.fl x)] rfl {} (TL.call (some 13) [(0,.fl x),(11,.b false),(13,.b ((Ku x)))] (fun w _=>Gg x w) Kr Kr ?_)
  generalize hr1:Ku x=r1
  refine TL.run 7 [] [(0,.fl x),(8,.b r1)] rfl {} (Zb rfl (TC.cond r1 rfl Kr (fun h2=>?_) (fun h2=>?_)))
  ·exact((by rw[← hr1,D2] at h2;cases h2):False).elim
  ·refine Zf (TL.run 1 [] [(0,.fl x),(17,.fl x)] rfl {} (Qy (Γ:=Bool) (fun g=>.b g) (fun g=>[.inr (Qm (g=false))]) [] [] (some 18) (fun g=>[(0,.fl x),(18,.b g)]) (fun w hM=>Gh x 0 w hM.pass rfl Qz hl) Kr (fun g=>Kr) ?_))
   rintro r_
   refine Xm [.inr (Qm (r_=false))] (fun _ hM=>hM) (Y3 (fun w hM=>hM.fact_at 0 rfl) (fun j9=>X2 [] (.cons _ (aB _)) (TL.run 3 [] [(0,.fl x),(16,.b r_)] rfl {} (Zb rfl (TC.cond r_ rfl Kr (fun h3=>?_) (fun h3=>?_))))))
   ·exact((by rw[j9] at h3;cases h3):False).elim
   ·refine TC.skip (ZY (YC (TL.run 1 [] [(0,.fl x),(3,.b false)] rfl {} (Z1 (Zf (TL.run 2 [] [(0,.fl x),(3,.b false),(21,.b (flt x 0))] rfl {} (Zb rfl (TC.cond (flt x 0) rfl Kr (fun h4=>?_) (fun h4=>?_)))))))))
    ·exact((by rw[II] at h4;cases h4):False).elim
    ·refine Yc (TL.run 1 [] [(0,.fl x),(3,.b false)] rfl {} (Zz (TL.run 2 [] [(0,.fl x),(3,.b false)] rfl {} (Z1 (Zf (TL.run 2 [] [(0,.fl x),(3,.b false),(25,.b (fge x 4737786807993761792))] rfl {} (Zb rfl (TC.cond (fge x 4737786807993761792) rfl Kr (fun h5=>?_) (fun h5=>?_)))))))))
     ·exact((by rw[EG] at h5;cases h5):False).elim
     ·refine Zf (TL.run 1 [] [(0,.fl x),(3,.b false),(31,.fl x)] rfl {} (ZW (sV (binOp .mul 215 (.fl x) (.fl 4608412980311869571))) (some 32) (.fl (Zh x 4608412980311869571)) [(0,.fl x),(3,.b false),(32,.fl (Zh x 4608412980311869571))] (fun w hM=>Y9 (by (try have by_:=hm4.2.2);(try have bz_:=Yv hr2);(try have jd:=Yx hr3);exact fmS)) Kr Kr (ZW (sV (convert 215 162 (.fl (Zh x 4608412980311869571)))) (some 33) (.int .u64 (f2i (Zh x 4608412980311869571))) [(0,.fl x),(3,.b false),(33,.int .u64 (f2i (Zh x 4608412980311869571)))] (fun w hM=>NN Kr Kr (by (try have by_:=hm4.2.2);(try have bz_:=Yv hr2);(try have jd:=Yx hr3);exact ED)) Kr Kr (TL.run 4 [] [(0,.fl x),(3,.b false),(4,.int .u64 (f2i (Zh x 4608412980311869571)))] rfl {} (Zz (TL.run 3 [] [(0,.fl x),(3,.b false),(4,.int .u64 (f2i (Zh x 4608412980311869571))),(5,.fl (dbl (f2i (Zh x 4608412980311869571))))] rfl {} (Z1 (Zf (TL.run 3 [] [(0,.fl x),(3,.b false),(4,.int .u64 (f2i (Zh x 4608412980311869571))),(5,.fl (dbl (f2i (Zh x 4608412980311869571)))),(38,.b ((ZZ .u64 (f2i (Zh x 4608412980311869571)) 1)==1))] rfl {} (Zb rfl (TC.cut (S:=Int×Nat) (fun (j,y)=>[(0,.fl x),(3,.b false),(4,.int .u64 j),(5,.fl y)]) (fun (j,y)=>[]) (fun (j,y)=>(j=LS x∧y=Bn x∧Po 17 y)) ?_ ?_)))))))))))
      ·refine TC.cond ((ZZ .u64 (f2i (Zh x 4608412980311869571)) 1)==1) rfl Kr (fun h6=>?_) (fun h6=>?_)
       ·exact Zf (TL.run 3 [] [(0,.fl x),(3,.b false),(4,.int .u64 (YI ((f2i (Zh x 4608412980311869571))+1))),(5,.fl (dbl (f2i (Zh x 4608412980311869571))))] rfl {} (Zb rfl (TC.region (TL.run 1 [] [(0,.fl x),(3,.b false),(4,.int .u64 (YI ((f2i (Zh x 4608412980311869571))+1))),(41,.fl (dbl (f2i (Zh x 4608412980311869571))))] rfl {} (ZW (sV (binOp .add 215 (.fl (dbl (f2i (Zh x 4608412980311869571)))) (.fl 4607182418800017408))) (some 42) (.fl (Zk (dbl (f2i (Zh x 4608412980311869571))) 4607182418800017408)) [(0,.fl x),(3,.b false),(4,.int .u64 (YI ((f2i (Zh x 4608412980311869571))+1))),(42,.fl (Zk (dbl (f2i (Zh x 4608412980311869571))) 4607182418800017408))] (fun w hM=>Xn (by have i_:=Me (x:=x);exact faS)) Kr Kr (TL.run 3 [] [(0,.fl x),(3,.b false),(4,.int .u64 (YI ((f2i (Zh x 4608412980311869571))+1))),(5,.fl (Zk (dbl (f2i (Zh x 4608412980311869571))) 4607182418800017408))] rfl {} (Zw rfl (TE.cut (YI ((f2i (Zh x 4608412980311869571))+1),Zk (dbl (f2i (Zh x 4608412980311869571))) 4607182418800017408) (by have q0_:=(YT h6);(try have by_:=hm4.2.2);(try have bz_:=Yv hr2);(try have jd:=Yx hr3);subst hr1;(try dsimp only);first|exact As (beq_iff_eq.1 (by assumption))|exact Au (beq_eq_false_iff_ne.1 (by assumption))) Kr (sb 0)))))))))
       ·exact TC.skip (TE.cut (f2i (Zh x 4608412980311869571),dbl (f2i (Zh x 4608412980311869571))) (by have q0_:=(Yl h6);(try have by_:=hm4.2.2);(try have bz_:=Yv hr2);(try have jd:=Yx hr3);subst hr1;(try dsimp only);first|exact As (beq_iff_eq.1 (by assumption))|exact Au (beq_eq_false_iff_ne.1 (by assumption))) Kr (sb 0))
      ·rintro⟨j,y⟩ hm4
       refine YC (TL.run 3 [] [(0,.fl x),(3,.b false),(4,.int .u64 (ZZ .u64 j 7)),(5,.fl y)] rfl {} (Zb rfl (TC.region (TL.run 2 [] [(3,.b false),(4,.int .u64 (ZZ .u64 j 7)),(5,.fl y),(45,.fl x),(46,.fl y)] rfl {} (ZW (sV (binOp .mul 215 (.fl y) (.fl 4605249456957292544))) (some 47) (.fl (Zh y 4605249456957292544)) [(3,.b false),(4,.int .u64 (ZZ .u64 j 7)),(5,.fl y),(45,.fl x),(47,.fl (Zh y 4605249456957292544))] (fun w hM=>Y9 (by (try have by_:=hm4.2.2);(try have bz_:=Yv hr2);(try have jd:=Yx hr3);exact fmS)) Kr Kr (ZW (sV (binOp .sub 215 (.fl x) (.fl (Zh y 4605249456957292544)))) (some 48) (.fl (YH x (Zh y 4605249456957292544))) [(3,.b false),(4,.int .u64 (ZZ .u64 j 7)),(5,.fl y),(48,.fl (YH x (Zh y 4605249456957292544)))] (fun w hM=>Ud (by (try have by_:=hm4.2.2);(try have bz_:=Yv hr2);(try have jd:=Yx hr3);exact fsS)) Kr Kr (TL.run 5 [] [(3,.b false),(4,.int .u64 (ZZ .u64 j 7)),(5,.fl y),(48,.fl (YH x (Zh y 4605249456957292544))),(49,.fl y)] rfl {} (ZW (sV (binOp .mul 215 (.fl y) (.fl 4495793288086814720))) (some 50) (.fl (Zh y 4495793288086814720)) [(3,.b false),(4,.int .u64 (ZZ .u64 j 7)),(5,.fl y),(48,.fl (YH x (Zh y 4605249456957292544))),(50,.fl (Zh y 4495793288086814720))] (fun w hM=>Y9 (by (try have by_:=hm4.2.2);(try have bz_:=Yv hr2);(try have jd:=Yx hr3);exact fmS)) Kr Kr (ZW (sV (binOp .sub 215 (.fl (YH x (Zh y 4605249456957292544))) (.fl (Zh y 4495793288086814720)))) (some 51) (.fl (YH (YH x (Zh y 4605249456957292544)) (Zh y 4495793288086814720))) [(3,.b false),(4,.int .u64 (ZZ .u64 j 7)),(5,.fl y),(51,.fl (YH (YH x (Zh y 4605249456957292544)) (Zh y 4495793288086814720)))] (fun w hM=>Ud (by (try have by_:=hm4.2.2);(try have bz_:=Yv hr2);(try have jd:=Yx hr3);exact fsS)) Kr Kr (TL.run 8 [] [(3,.b false),(4,.int .u64 (ZZ .u64 j 7)),(51,.fl (YH (YH x (Zh y 4605249456957292544)) (Zh y 4495793288086814720))),(52,.fl y)] rfl {} (ZW (sV (binOp .mul 215 (.fl y) (.fl 4388835458085048688))) (some 53) (.fl (Zh y 4388835458085048688)) [(3,.b false),(4,.int .u64 (ZZ .u64 j 7)),(51,.fl (YH (YH x (Zh y 4605249456957292544)) (Zh y 4495793288086814720))),(53,.fl (Zh y 4388835458085048688))] (fun w hM=>Y9 (by (try have by_:=hm4.2.2);(try have bz_:=Yv hr2);(try have jd:=Yx hr3);exact fmS)) Kr Kr (ZW (sV (binOp .sub 215 (.fl (YH (YH x (Zh y 4605249456957292544)) (Zh y 4495793288086814720))) (.fl (Zh y 4388835458085048688)))) (some 54) (.fl (YH (YH (YH x (Zh y 4605249456957292544)) (Zh y 4495793288086814720)) (Zh y 4388835458085048688))) [(3,.b false),(4,.int .u64 (ZZ .u64 j 7)),(54,.fl (YH (YH (YH x (Zh y 4605249456957292544)) (Zh y 4495793288086814720)) (Zh y 4388835458085048688)))] (fun w hM=>Ud (by (try have by_:=hm4.2.2);(try have bz_:=Yv hr2);(try have jd:=Yx hr3);exact fsS)) Kr Kr (TL.run 11 [] [(3,.b false),(4,.int .u64 (ZZ .u64 j 7)),(6,.fl (YH (YH (YH x (Zh y 4605249456957292544)) (Zh y 4495793288086814720)) (Zh y 4388835458085048688)))] rfl {} ?_)))))))))))))
       generalize hr2:YH (YH (YH x (Zh y 4605249456957292544)) (Zh y 4495793288086814720)) (Zh y 4388835458085048688)=r2
       refine Z1 (Zf (TL.run 2 [] [(3,.b false),(4,.int .u64 (ZZ .u64 j 7)),(6,.fl r2),(56,.b (decide ((ZZ .u64 j 7)>3)))] rfl {} (Zb rfl (TC.cut (S:=Bool×Int) (fun (sign,j_2)=>[(3,.b sign),(4,.int .u64 j_2),(6,.fl r2)]) (fun (sign,j_2)=>[]) (fun (sign,j_2)=>(sign=Fq x∧j_2=Uh x)) ?_ ?_))))
       ·refine TC.cond (decide ((ZZ .u64 j 7)>3)) rfl Kr (fun h7=>?_) (fun h7=>?_)
        ·exact Zf (TL.run 3 [] [(3,.b true),(4,.int .u64 (ZZ .u64 j 7)),(6,.fl r2)] rfl {} (Zb rfl (TC.region (TL.run 3 [] [(3,.b true),(4,.int .u64 (YI ((ZZ .u64 j 7)-4))),(6,.fl r2)] rfl {} (Zw rfl (TE.cut (true,YI ((ZZ .u64 j 7)-4)) (by have q0_:=(ZF h7);(try have by_:=hm4.2.2);(try have bz_:=Yv hr2);(try have jd:=Yx hr3);subst hr1 hr2;(try dsimp only);first|exact Av hm4.1 (by omega)|exact Aw hm4.1 (by omega)) Kr (sb 0)))))))
        ·exact TC.skip (TE.cut (false,ZZ .u64 j 7) (by have q0_:=(Zv h7);(try have by_:=hm4.2.2);(try have bz_:=Yv hr2);(try have jd:=Yx hr3);subst hr1 hr2;(try dsimp only);first|exact Av hm4.1 (by omega)|exact Aw hm4.1 (by omega)) Kr (sb 0))
       ·rintro⟨sign,j_2⟩ hm5
        refine YC (TL.run 2 [] [(3,.b sign),(4,.int .u64 j_2),(6,.fl r2),(61,.fl r2),(62,.fl r2)] rfl {} (ZW (sV (binOp .mul 215 (.fl r2) (.fl r2))) (some 63) (.fl (Zh r2 r2)) [(3,.b sign),(4,.int .u64 j_2),(6,.fl r2),(63,.fl (Zh r2 r2))] (fun w hM=>Y9 (by (try have by_:=hm4.2.2);(try have bz_:=Yv hr2);(try have jd:=Yx hr3);exact fmS)) Kr Kr (TL.run 4 [] [(3,.b sign),(4,.int .u64 j_2),(6,.fl r2),(7,.fl (Zh r2 r2))] rfl {} ?_)))
        generalize hr3:Zh r2 r2=r3
        refine Z1 (Zf (TL.run 3 [] [(3,.b sign),(4,.int .u64 j_2),(6,.fl r2),(7,.fl r3),(66,.b (j_2==1))] rfl {} (VS 66 (j_2==1) 6 [] [] (fun β=>[(3,.b sign),(6,.fl r2),(7,.fl r3),(69,.b (β||(j_2==2)))]) Kr rfl {} {} (Zb rfl (TC.cut (S:=Nat) (fun y_2=>[(3,.b sign),(5,.fl y_2)]) (fun y_2=>[]) (fun y_2=>(y_2=WZ (Uh x) (Bo x))) ?_ ?_)))))
        ·refine TC.cond ((j_2==1)||(j_2==2)) rfl Kr (fun h8=>?_) (fun h8=>?_)
         ·exact TC.region (TL.run 1 [] [(3,.b sign),(7,.fl r3),(70,.fl r3)] rfl {} (ZW (sV (binOp .mul 215 (.fl 4602678819172646912) (.fl r3))) (some 71) (.fl (Zh 4602678819172646912 r3)) [(3,.b sign),(7,.fl r3),(71,.fl (Zh 4602678819172646912 r3))] (fun w hM=>Y9 (by have q0_:=((UP h8).imp (fun h=>(YT h)) (fun h=>(YT h)));(try have by_:=hm4.2.2);(try have bz_:=Yv hr2);(try have jd:=Yx hr3);exact fmS)) Kr Kr (ZW (sV (binOp .sub 215 (.fl 4607182418800017408) (.fl (Zh 4602678819172646912 r3)))) (some 72) (.fl (pQ2 r3)) [(3,.b sign),(7,.fl r3),(72,.fl (pQ2 r3))] (fun w hM=>Ud (by have q0_:=((UP h8).imp (fun h=>(YT h)) (fun h=>(YT h)));(try have by_:=hm4.2.2);(try have bz_:=Yv hr2);(try have jd:=Yx hr3);exact fsS)) Kr Kr (TL.run 5 [] [(3,.b sign),(7,.fl r3),(72,.fl (pQ2 r3)),(73,.fl r3),(74,.fl r3)] rfl {} (ZW (sV (binOp .mul 215 (.fl r3) (.fl r3))) (some 75) (.fl (Zh r3 r3)) [(3,.b sign),(7,.fl r3),(72,.fl (pQ2 r3)),(75,.fl (Zh r3 r3))] (fun w hM=>Y9 (by have q0_:=((UP h8).imp (fun h=>(YT h)) (fun h=>(YT h)));(try have by_:=hm4.2.2);(try have bz_:=Yv hr2);(try have jd:=Yx hr3);exact fmS)) Kr Kr (TL.run 7 [] [(3,.b sign),(7,.fl r3),(72,.fl (pQ2 r3)),(75,.fl (Zh r3 r3)),(76,.p0 1)] rfl {} (ZW (sV (Instr.loadAt 215 (.p0 1))) (some 77) (.fl 13666448263388469915) [(3,.b sign),(7,.fl r3),(72,.fl (pQ2 r3)),(75,.fl (Zh r3 r3)),(77,.fl 13666448263388469915)] (fun w hM=>Qj (i:=0) ((hT.1).sat hM) rfl Kr) Kr Kr (TL.run 9 [] [(3,.b sign),(7,.fl r3),(72,.fl (pQ2 r3)),(75,.fl (Zh r3 r3)),(77,.fl 13666448263388469915),(78,.fl r3)] rfl {} (ZW (sV (binOp .mul 215 (.fl 13666448263388469915) (.fl r3))) (some 79) (.fl (Zh 13666448263388469915 r3)) [(3,.b sign),(7,.fl r3),(72,.fl (pQ2 r3)),(75,.fl (Zh r3 r3)),(79,.fl (Zh 13666448263388469915 r3))] (fun w hM=>Y9 (by have q0_:=((UP h8).imp (fun h=>(YT h)) (fun h=>(YT h)));(try have by_:=hm4.2.2);(try have bz_:=Yv hr2);(try have jd:=Yx hr3);exact fmS)) Kr Kr (TL.run 11 [] [(3,.b sign),(7,.fl r3),(72,.fl (pQ2 r3)),(75,.fl (Zh r3 r3)),(79,.fl (Zh 13666448263388469915 r3)),(80,.pt 1 1)] rfl {} (ZW (sV (Instr.loadAt 215 (.pt 1 1))) (some 81) (.fl 4477121864728985349) [(3,.b sign),(7,.fl r3),(72,.fl (pQ2 r3)),(75,.fl (Zh r3 r3)),(79,.fl (Zh 13666448263388469915 r3)),(81,.fl 4477121864728985349)] (fun w hM=>Qj (i:=1) ((hT.1).sat hM) rfl Kr) Kr Kr (ZW (sV (binOp .add 215 (.fl (Zh 13666448263388469915 r3)) (.fl 4477121864728985349))) (some 82) (.fl (pQ3 r3)) [(3,.b sign),(7,.fl r3),(72,.fl (pQ2 r3)),(75,.fl (Zh r3 r3)),(82,.fl (pQ3 r3))] (fun w hM=>Xn (by have q0_:=((UP h8).imp (fun h=>(YT h)) (fun h=>(YT h)));(try have by_:=hm4.2.2);(try have bz_:=Yv hr2);(try have jd:=Yx hr3);exact faS)) Kr Kr (TL.run 14 [] [(3,.b sign),(7,.fl r3),(72,.fl (pQ2 r3)),(75,.fl (Zh r3 r3)),(82,.fl (pQ3 r3)),(83,.fl r3)] rfl {} (ZW (sV (binOp .mul 215 (.fl (pQ3 r3)) (.fl r3))) (some 84) (.fl (pQ8 r3)) [(3,.b sign),(7,.fl r3),(72,.fl (pQ2 r3)),(75,.fl (Zh r3 r3)),(84,.fl (pQ8 r3))] (fun w hM=>Y9 (by have q0_:=((UP h8).imp (fun h=>(YT h)) (fun h=>(YT h)));(try have by_:=hm4.2.2);(try have bz_:=Yv hr2);(try have jd:=Yx hr3);exact fmS)) Kr Kr (TL.run 16 [] [(3,.b sign),(7,.fl r3),(72,.fl (pQ2 r3)),(75,.fl (Zh r3 r3)),(84,.fl (pQ8 r3)),(85,.pt 1 2)] rfl {} (ZW (sV (Instr.loadAt 215 (.pt 1 2))) (some 86) (.fl 13732177093698800582) [(3,.b sign),(7,.fl r3),(72,.fl (pQ2 r3)),(75,.fl (Zh r3 r3)),(84,.fl (pQ8 r3)),(86,.fl 13732177093698800582)] (fun w hM=>Qj (i:=2) ((hT.1).sat hM) rfl Kr) Kr Kr (ZW (sV (binOp .add 215 (.fl (pQ8 r3)) (.fl 13732177093698800582))) (some 87) (.fl (pQ14 r3)) [(3,.b sign),(7,.fl r3),(72,.fl (pQ2 r3)),(75,.fl (Zh r3 r3)),(87,.fl (pQ14 r3))] (fun w hM=>Xn (by have q0_:=((UP h8).imp (fun h=>(YT h)) (fun h=>(YT h)));(try have by_:=hm4.2.2);(try have bz_:=Yv hr2);(try have jd:=Yx hr3);exact faS)) Kr Kr (TL.run 19 [] [(3,.b sign),(7,.fl r3),(72,.fl (pQ2 r3)),(75,.fl (Zh r3 r3)),(87,.fl (pQ14 r3)),(88,.fl r3)] rfl {} (ZW (sV (binOp .mul 215 (.fl (pQ14 r3)) (.fl r3))) (some 89) (.fl (pQ18 r3)) [(3,.b sign),(7,.fl r3),(72,.fl (pQ2 r3)),(75,.fl (Zh r3 r3)),(89,.fl (pQ18 r3))] (fun w hM=>Y9 (by have q0_:=((UP h8).imp (fun h=>(YT h)) (fun h=>(YT h)));(try have by_:=hm4.2.2);(try have bz_:=Yv hr2);(try have jd:=Yx hr3);exact fmS)) Kr Kr (TL.run 21 [] [(3,.b sign),(7,.fl r3),(72,.fl (pQ2 r3)),(75,.fl (Zh r3 r3)),(89,.fl (pQ18 r3)),(90,.pt 1 3)] rfl {} (ZW (sV (Instr.loadAt 215 (.pt 1 3))) (some 91) (.fl 4537941361668146421) [(3,.b sign),(7,.fl r3),(72,.fl (pQ2 r3)),(75,.fl (Zh r3 r3)),(89,.fl (pQ18 r3)),(91,.fl 4537941361668146421)] (fun w hM=>Qj (i:=3) ((hT.1).sat hM) rfl Kr) Kr Kr (ZW (sV (binOp .add 215 (.fl (pQ18 r3)) (.fl 4537941361668146421))) (some 92) (.fl (pQ21 r3)) [(3,.b sign),(7,.fl r3),(72,.fl (pQ2 r3)),(75,.fl (Zh r3 r3)),(92,.fl (pQ21 r3))] (fun w hM=>Xn (by have q0_:=((UP h8).imp (fun h=>(YT h)) (fun h=>(YT h)));(try have by_:=hm4.2.2);(try have bz_:=Yv hr2);(try have jd:=Yx hr3);exact faS)) Kr Kr (TL.run 24 [] [(3,.b sign),(7,.fl r3),(72,.fl (pQ2 r3)),(75,.fl (Zh r3 r3)),(92,.fl (pQ21 r3)),(93,.fl r3)] rfl {} (ZW (sV (binOp .mul 215 (.fl (pQ21 r3)) (.fl r3))) (some 94) (.fl (pQ25 r3)) [(3,.b sign),(7,.fl r3),(72,.fl (pQ2 r3)),(75,.fl (Zh r3 r3)),(94,.fl (pQ25 r3))] (fun w hM=>Y9 (by have q0_:=((UP h8).imp (fun h=>(YT h)) (fun h=>(YT h)));(try have by_:=hm4.2.2);(try have bz_:=Yv hr2);(try have jd:=Yx hr3);exact fmS)) Kr Kr (TL.run 26 [] [(3,.b sign),(7,.fl r3),(72,.fl (pQ2 r3)),(75,.fl (Zh r3 r3)),(94,.fl (pQ25 r3)),(95,.pt 1 4)] rfl {} (ZW (sV (Instr.loadAt 215 (.pt 1 4))) (some 96) (.fl 13787419979223748497) [(3,.b sign),(7,.fl r3),(72,.fl (pQ2 r3)),(75,.fl (Zh r3 r3)),(94,.fl (pQ25 r3)),(96,.fl 13787419979223748497)] (fun w hM=>Qj (i:=4) ((hT.1).sat hM) rfl Kr) Kr Kr (ZW (sV (binOp .add 215 (.fl (pQ25 r3)) (.fl 13787419979223748497))) (some 97) (.fl (pQ30 r3)) [(3,.b sign),(7,.fl r3),(72,.fl (pQ2 r3)),(75,.fl (Zh r3 r3)),(97,.fl (pQ30 r3))] (fun w hM=>Xn (by have q0_:=((UP h8).imp (fun h=>(YT h)) (fun h=>(YT h)));(try have by_:=hm4.2.2);(try have bz_:=Yv hr2);(try have jd:=Yx hr3);exact faS)) Kr Kr (TL.run 29 [] [(3,.b sign),(72,.fl (pQ2 r3)),(75,.fl (Zh r3 r3)),(97,.fl (pQ30 r3)),(98,.fl r3)] rfl {} (ZW (sV (binOp .mul 215 (.fl (pQ30 r3)) (.fl r3))) (some 99) (.fl (pQ34 r3)) [(3,.b sign),(72,.fl (pQ2 r3)),(75,.fl (Zh r3 r3)),(99,.fl (pQ34 r3))] (fun w hM=>Y9 (by have q0_:=((UP h8).imp (fun h=>(YT h)) (fun h=>(YT h)));(try have by_:=hm4.2.2);(try have bz_:=Yv hr2);(try have jd:=Yx hr3);exact fmS)) Kr Kr (TL.run 31 [] [(3,.b sign),(72,.fl (pQ2 r3)),(75,.fl (Zh r3 r3)),(99,.fl (pQ34 r3)),(100,.pt 1 5)] rfl {} (ZW (sV (Instr.loadAt 215 (.pt 1 5))) (some 101) (.fl 4586165620538955083) [(3,.b sign),(72,.fl (pQ2 r3)),(75,.fl (Zh r3 r3)),(99,.fl (pQ34 r3)),(101,.fl 4586165620538955083)] (fun w hM=>Qj (i:=5) ((hT.1).sat hM) rfl Kr) Kr Kr (ZW (sV (binOp .add 215 (.fl (pQ34 r3)) (.fl 4586165620538955083))) (some 102) (.fl (pQ36 r3)) [(3,.b sign),(72,.fl (pQ2 r3)),(75,.fl (Zh r3 r3)),(102,.fl (pQ36 r3))] (fun w hM=>Xn (by have q0_:=((UP h8).imp (fun h=>(YT h)) (fun h=>(YT h)));(try have by_:=hm4.2.2);(try have bz_:=Yv hr2);(try have jd:=Yx hr3);exact faS)) Kr Kr (ZW (sV (binOp .mul 215 (.fl (Zh r3 r3)) (.fl (pQ36 r3)))) (some 103) (.fl (pQ38 r3)) [(3,.b sign),(72,.fl (pQ2 r3)),(103,.fl (pQ38 r3))] (fun w hM=>Y9 (by have q0_:=((UP h8).imp (fun h=>(YT h)) (fun h=>(YT h)));(try have by_:=hm4.2.2);(try have bz_:=Yv hr2);(try have jd:=Yx hr3);exact fmS)) Kr Kr (ZW (sV (binOp .add 215 (.fl (pQ2 r3)) (.fl (pQ38 r3)))) (some 104) (.fl (pQ39 r3)) [(3,.b sign),(104,.fl (pQ39 r3))] (fun w hM=>Xn (by have q0_:=((UP h8).imp (fun h=>(YT h)) (fun h=>(YT h)));(try have by_:=hm4.2.2);(try have bz_:=Yv hr2);(try have jd:=Yx hr3);exact faS)) Kr Kr (TL.run 36 [] [(3,.b sign),(5,.fl (pQ39 r3))] rfl {} (Zw rfl (TE.cut (pQ39 r3) (by have q0_:=((UP h8).imp (fun h=>(YT h)) (fun h=>(YT h)));(try have by_:=hm4.2.2);(try have bz_:=Yv hr2);(try have jd:=Yx hr3);subst hr1 hr2 hr3;(try dsimp only);first|exact q_T hm5.2 hm4.2.1 (by first|assumption|rfl) (by first|assumption|rfl) (by assumption)|exact q_F hm5.2 hm4.2.1 (by first|assumption|rfl) (by first|assumption|rfl) (by assumption)) Kr (sb 0))))))))))))))))))))))))))))))))))))))
         ·exact TC.region (TL.run 3 [] [(3,.b sign),(7,.fl r3),(105,.fl r2),(106,.fl r2),(107,.fl r3)] rfl {} (ZW (sV (binOp .mul 215 (.fl r2) (.fl r3))) (some 108) (.fl (Zh r2 r3)) [(3,.b sign),(7,.fl r3),(105,.fl r2),(108,.fl (Zh r2 r3))] (fun w hM=>Y9 (by have q0_:=(Yl (Z2 h8));have q1_:=(Yl (Ye h8));(try have by_:=hm4.2.2);(try have bz_:=Yv hr2);(try have jd:=Yx hr3);exact fmS)) Kr Kr (TL.run 5 [] [(3,.b sign),(7,.fl r3),(105,.fl r2),(108,.fl (Zh r2 r3)),(109,.p0 2)] rfl {} (ZW (sV (Instr.loadAt 215 (.p0 2))) (some 110) (.fl 4460209587652500685) [(3,.b sign),(7,.fl r3),(105,.fl r2),(108,.fl (Zh r2 r3)),(110,.fl 4460209587652500685)] (fun w hM=>Qj (i:=0) ((hT.2).sat hM) rfl Kr) Kr Kr (TL.run 7 [] [(3,.b sign),(7,.fl r3),(105,.fl r2),(108,.fl (Zh r2 r3)),(110,.fl 4460209587652500685),(111,.fl r3)] rfl {} (ZW (sV (binOp .mul 215 (.fl 4460209587652500685) (.fl r3))) (some 112) (.fl (Zh 4460209587652500685 r3)) [(3,.b sign),(7,.fl r3),(105,.fl r2),(108,.fl (Zh r2 r3)),(112,.fl (Zh 4460209587652500685 r3))] (fun w hM=>Y9 (by have q0_:=(Yl (Z2 h8));have q1_:=(Yl (Ye h8));(try have by_:=hm4.2.2);(try have bz_:=Yv hr2);(try have jd:=Yx hr3);exact fmS)) Kr Kr (TL.run 9 [] [(3,.b sign),(7,.fl r3),(105,.fl r2),(108,.fl (Zh r2 r3)),(112,.fl (Zh 4460209587652500685 r3)),(113,.pt 2 1)] rfl {} (ZW (sV (Instr.loadAt 215 (.pt 2 1))) (some 114) (.fl 13716528389658582877) [(3,.b sign),(7,.fl r3),(105,.fl r2),(108,.fl (Zh r2 r3)),(112,.fl (Zh 4460209587652500685 r3)),(114,.fl 13716528389658582877)] (fun w hM=>Qj (i:=1) ((hT.2).sat hM) rfl Kr) Kr Kr (ZW (sV (binOp .add 215 (.fl (Zh 4460209587652500685 r3)) (.fl 13716528389658582877))) (some 115) (.fl (pQ4 r3)) [(3,.b sign),(7,.fl r3),(105,.fl r2),(108,.fl (Zh r2 r3)),(115,.fl (pQ4 r3))] (fun w hM=>Xn (by have q0_:=(Yl (Z2 h8));have q1_:=(Yl (Ye h8));(try have by_:=hm4.2.2);(try have bz_:=Yv hr2);(try have jd:=Yx hr3);exact faS)) Kr Kr (TL.run 12 [] [(3,.b sign),(7,.fl r3),(105,.fl r2),(108,.fl (Zh r2 r3)),(115,.fl (pQ4 r3)),(116,.fl r3)] rfl {} (ZW (sV (binOp .mul 215 (.fl (pQ4 r3)) (.fl r3))) (some 117) (.fl (pQ9 r3)) [(3,.b sign),(7,.fl r3),(105,.fl r2),(108,.fl (Zh r2 r3)),(117,.fl (pQ9 r3))] (fun w hM=>Y9 (by have q0_:=(Yl (Z2 h8));have q1_:=(Yl (Ye h8));(try have by_:=hm4.2.2);(try have bz_:=Yv hr2);(try have jd:=Yx hr3);exact fmS)) Kr Kr (TL.run 14 [] [(3,.b sign),(7,.fl r3),(105,.fl r2),(108,.fl (Zh r2 r3)),(117,.fl (pQ9 r3)),(118,.pt 2 2)] rfl {} (ZW (sV (Instr.loadAt 215 (.pt 2 2))) (some 119) (.fl 4523617212962785441) [(3,.b sign),(7,.fl r3),(105,.fl r2),(108,.fl (Zh r2 r3)),(117,.fl (pQ9 r3)),(119,.fl 4523617212962785441)] (fun w hM=>Qj (i:=2) ((hT.2).sat hM) rfl Kr) Kr Kr (ZW (sV (binOp .add 215 (.fl (pQ9 r3)) (.fl 4523617212962785441))) (some 120) (.fl (pQ13 r3)) [(3,.b sign),(7,.fl r3),(105,.fl r2),(108,.fl (Zh r2 r3)),(120,.fl (pQ13 r3))] (fun w hM=>Xn (by have q0_:=(Yl (Z2 h8));have q1_:=(Yl (Ye h8));(try have by_:=hm4.2.2);(try have bz_:=Yv hr2);(try have jd:=Yx hr3);exact faS)) Kr Kr (TL.run 17 [] [(3,.b sign),(7,.fl r3),(105,.fl r2),(108,.fl (Zh r2 r3)),(120,.fl (pQ13 r3)),(121,.fl r3)] rfl {} (ZW (sV (binOp .mul 215 (.fl (pQ13 r3)) (.fl r3))) (some 122) (.fl (pQ17 r3)) [(3,.b sign),(7,.fl r3),(105,.fl r2),(108,.fl (Zh r2 r3)),(122,.fl (pQ17 r3))] (fun w hM=>Y9 (by have q0_:=(Yl (Z2 h8));have q1_:=(Yl (Ye h8));(try have by_:=hm4.2.2);(try have bz_:=Yv hr2);(try have jd:=Yx hr3);exact fmS)) Kr Kr (TL.run 19 [] [(3,.b sign),(7,.fl r3),(105,.fl r2),(108,.fl (Zh r2 r3)),(122,.fl (pQ17 r3)),(123,.pt 2 3)] rfl {} (ZW (sV (Instr.loadAt 215 (.pt 2 3))) (some 124) (.fl 13774824197404483331) [(3,.b sign),(7,.fl r3),(105,.fl r2),(108,.fl (Zh r2 r3)),(122,.fl (pQ17 r3)),(124,.fl 13774824197404483331)] (fun w hM=>Qj (i:=3) ((hT.2).sat hM) rfl Kr) Kr Kr (ZW (sV (binOp .add 215 (.fl (pQ17 r3)) (.fl 13774824197404483331))) (some 125) (.fl (pQ22 r3)) [(3,.b sign),(7,.fl r3),(105,.fl r2),(108,.fl (Zh r2 r3)),(125,.fl (pQ22 r3))] (fun w hM=>Xn (by have q0_:=(Yl (Z2 h8));have q1_:=(Yl (Ye h8));(try have by_:=hm4.2.2);(try have bz_:=Yv hr2);(try have jd:=Yx hr3);exact faS)) Kr Kr (TL.run 22 [] [(3,.b sign),(7,.fl r3),(105,.fl r2),(108,.fl (Zh r2 r3)),(125,.fl (pQ22 r3)),(126,.fl r3)] rfl {} (ZW (sV (binOp .mul 215 (.fl (pQ22 r3)) (.fl r3))) (some 127) (.fl (pQ26 r3)) [(3,.b sign),(7,.fl r3),(105,.fl r2),(108,.fl (Zh r2 r3)),(127,.fl (pQ26 r3))] (fun w hM=>Y9 (by have q0_:=(Yl (Z2 h8));have q1_:=(Yl (Ye h8));(try have by_:=hm4.2.2);(try have bz_:=Yv hr2);(try have jd:=Yx hr3);exact fmS)) Kr Kr (TL.run 24 [] [(3,.b sign),(7,.fl r3),(105,.fl r2),(108,.fl (Zh r2 r3)),(127,.fl (pQ26 r3)),(128,.pt 2 4)] rfl {} (ZW (sV (Instr.loadAt 215 (.pt 2 4))) (some 129) (.fl 4575957461383575504) [(3,.b sign),(7,.fl r3),(105,.fl r2),(108,.fl (Zh r2 r3)),(127,.fl (pQ26 r3)),(129,.fl 4575957461383575504)] (fun w hM=>Qj (i:=4) ((hT.2).sat hM) rfl Kr) Kr Kr (ZW (sV (binOp .add 215 (.fl (pQ26 r3)) (.fl 4575957461383575504))) (some 130) (.fl (pQ29 r3)) [(3,.b sign),(7,.fl r3),(105,.fl r2),(108,.fl (Zh r2 r3)),(130,.fl (pQ29 r3))] (fun w hM=>Xn (by have q0_:=(Yl (Z2 h8));have q1_:=(Yl (Ye h8));(try have by_:=hm4.2.2);(try have bz_:=Yv hr2);(try have jd:=Yx hr3);exact faS)) Kr Kr (TL.run 27 [] [(3,.b sign),(105,.fl r2),(108,.fl (Zh r2 r3)),(130,.fl (pQ29 r3)),(131,.fl r3)] rfl {} (ZW (sV (binOp .mul 215 (.fl (pQ29 r3)) (.fl r3))) (some 132) (.fl (pQ33 r3)) [(3,.b sign),(105,.fl r2),(108,.fl (Zh r2 r3)),(132,.fl (pQ33 r3))] (fun w hM=>Y9 (by have q0_:=(Yl (Z2 h8));have q1_:=(Yl (Ye h8));(try have by_:=hm4.2.2);(try have bz_:=Yv hr2);(try have jd:=Yx hr3);exact fmS)) Kr Kr (TL.run 29 [] [(3,.b sign),(105,.fl r2),(108,.fl (Zh r2 r3)),(132,.fl (pQ33 r3)),(133,.pt 2 5)] rfl {} (ZW (sV (Instr.loadAt 215 (.pt 2 5))) (some 134) (.fl 13818544856648471880) [(3,.b sign),(105,.fl r2),(108,.fl (Zh r2 r3)),(132,.fl (pQ33 r3)),(134,.fl 13818544856648471880)] (fun w hM=>Qj (i:=5) ((hT.2).sat hM) rfl Kr) Kr Kr (ZW (sV (binOp .add 215 (.fl (pQ33 r3)) (.fl 13818544856648471880))) (some 135) (.fl (pQ37 r3)) [(3,.b sign),(105,.fl r2),(108,.fl (Zh r2 r3)),(135,.fl (pQ37 r3))] (fun w hM=>Xn (by have q0_:=(Yl (Z2 h8));have q1_:=(Yl (Ye h8));(try have by_:=hm4.2.2);(try have bz_:=Yv hr2);(try have jd:=Yx hr3);exact faS)) Kr Kr (ZW (sV (binOp .mul 215 (.fl (Zh r2 r3)) (.fl (pQ37 r3)))) (some 136) (.fl (Zh (Zh r2 r3) (pQ37 r3))) [(3,.b sign),(105,.fl r2),(136,.fl (Zh (Zh r2 r3) (pQ37 r3)))] (fun w hM=>Y9 (by have q0_:=(Yl (Z2 h8));have q1_:=(Yl (Ye h8));(try have by_:=hm4.2.2);(try have bz_:=Yv hr2);(try have jd:=Yx hr3);exact fmS)) Kr Kr (ZW (sV (binOp .add 215 (.fl r2) (.fl (Zh (Zh r2 r3) (pQ37 r3))))) (some 137) (.fl (Zk r2 (Zh (Zh r2 r3) (pQ37 r3)))) [(3,.b sign),(137,.fl (Zk r2 (Zh (Zh r2 r3) (pQ37 r3))))] (fun w hM=>Xn (by have q0_:=(Yl (Z2 h8));have q1_:=(Yl (Ye h8));(try have by_:=hm4.2.2);(try have bz_:=Yv hr2);(try have jd:=Yx hr3);exact faS)) Kr Kr (TL.run 34 [] [(3,.b sign),(5,.fl (Zk r2 (Zh (Zh r2 r3) (pQ37 r3))))] rfl {} (Zw rfl (TE.cut (Zk r2 (Zh (Zh r2 r3) (pQ37 r3))) (by have q0_:=(Yl (Z2 h8));have q1_:=(Yl (Ye h8));(try have by_:=hm4.2.2);(try have bz_:=Yv hr2);(try have jd:=Yx hr3);subst hr1 hr2 hr3;(try dsimp only);first|exact q_T hm5.2 hm4.2.1 (by first|assumption|rfl) (by first|assumption|rfl) (by assumption)|exact q_F hm5.2 hm4.2.1 (by first|assumption|rfl) (by first|assumption|rfl) (by assumption)) Kr (sb 0)))))))))))))))))))))))))))))))))))
        ·rintro y_2 hm6
         refine Z3 (TC.seq (Zf (TL.run 1 [] [(5,.fl y_2),(138,.b sign)] rfl {} (Zb rfl (TC.cond sign rfl Kr (fun h9=>?_) (fun h9=>?_))))))
         ·exact TC.region (TL.run 3 [] [(5,.fl (We y_2))] rfl {} (Zz (TL.run 2 [] [(2,.fl (We y_2))] rfl {} (Zb rfl (TC.ret (ZO (.inl rfl) (We y_2) [] (.fl (We y_2)) {} rfl (fun _ hM=>(hM.sub (sb 0)).fact (by (try have by_:=hm4.2.2);(try have bz_:=Yv hr2);(try have jd:=Yx hr3);subst hr1 hr2 hr3;(try dsimp only);first|exact IL h1|exact IM h1 hm5.1 (by assumption) hm6|exact IP h1 hm5.1 (by assumption) hm6))))))))
         ·exact Yc (TL.run 2 [] [(2,.fl y_2)] rfl {} (Zb rfl (TC.ret (ZO (.inl rfl) y_2 [] (.fl y_2) {} rfl (fun _ hM=>(hM.sub (sb 0)).fact (by (try have by_:=hm4.2.2);(try have bz_:=Yv hr2);(try have jd:=Yx hr3);subst hr1 hr2 hr3;(try dsimp only);first|exact IL h1|exact IM h1 hm5.1 (by assumption) hm6|exact IP h1 hm5.1 (by assumption) hm6))))))
def VF (x:Nat):Nat :=
 let r1:=(HA x)
 r1
theorem C5 (x:Nat) (w:World) (hx:Po 14 x) (hl:x<18446744073709551616) (hT:G8 w):Calls Tryz.prog 183 #[.fl x] w (Ret w (.fl (VF x))):=by
 refine Zp (vs:=[.fl x]) (w:=w) Tryz.func183 rfl Tryz.ntmps183 rfl (Zf (Zc 1 [] [(2,.fl 0)] {} (Z1 (J1 rfl Kr (Yc (Zc 1 [] [(5,.fl x)] {} (Qy (Γ:=Nat) (fun g=>.fl g) (fun g=>[.inr (Qm (g=HA x))]) [] [] (some 6) (fun g=>[(6,.fl g)]) (fun w hM=>C4 x w hM.pass hx hl (hT.sat hM)) Kr (fun g=>Kr) ?_)))))))
 rintro r1
 refine Xm [.inr (Qm (r1=HA x))] (fun _ hM=>hM) (Y3 (fun w hM=>hM.fact_at 0 rfl) (fun fc=>X2 [] (.cons _ (aB _)) ?_))
 have hr1:(HA x)=r1:=(fc).symm
 exact Zc 3 [] [(2,.fl r1)] {} (Zb rfl (TC.ret (TE.ret [] (.fl r1) {} (by unfold VF;refine eS (fun z=>(.fl z:Value)) ?_;subst hr1;exact rfl))))
def JR (x:Nat):Nat :=
 cond (decide ((ZZ .u64 ((x:Int).fdiv (2 ^ 52)) 2047)<1023)) (
  cond ((ZZ .u64 ((x:Int).fdiv (2 ^ 52)) 2047)==1022) (
   (kor .u64 (ZZ .u64 (x:Int) 9223372036854775808) 4607182418800017408).toNat) (
   (ZZ .u64 (x:Int) 9223372036854775808).toNat)) (
  cond (decide ((ZZ .u64 ((x:Int).fdiv (2 ^ 52)) 2047)<1075)) (
   let r1:=Jk .u64 (YI ((x:Int)+((2251799813685248:Int).fdiv (2 ^ (min (YI ((ZZ .u64 ((x:Int).fdiv (2 ^ 52)) 2047)-1023)).toNat 64))))) ((4503599627370495:Int).fdiv (2 ^ (min (YI ((ZZ .u64 ((x:Int).fdiv (2 ^ 52)) 2047)-1023)).toNat 64)))
   r1.toNat) (
   (x:Int).toNat))
theorem M1 (x:Nat) (w:World):Calls Tryz.prog 182 #[.fl x] w (Ret w (.fl (JR x))):=by
 refine Zp (vs:=[.fl x]) (w:=w) Tryz.func182 rfl Tryz.ntmps182 rfl (Zf (Zc 1 [] [(2,.fl 0)] {} (Zz (Zc 1 [] [(5,.fl x)] {} (TL.v (callFunc 134 #[.fl x]) 6 (.int .u64 (x:Int)) (fun w hM=>VE Tryz.func134 Kr Kr Kr Kr) {} (Zc 3 [] [(3,.int .u64 (x:Int))] {} (Zz (Zc 4 [] [(4,.int .u64 (ZZ .u64 ((x:Int).fdiv (2 ^ 52)) 2047))] {} (Z1 (Zf (Zc 2 [] [(11,.b (decide ((ZZ .u64 ((x:Int).fdiv (2 ^ 52)) 2047)<1023)))] {} (Zb rfl (TC.cond (decide ((ZZ .u64 ((x:Int).fdiv (2 ^ 52)) 2047)<1023)) rfl Kr (fun h1=>?_) (fun h1=>?_))))))))))))))
 ·refine Zf (Zc 3 [] [(3,.int .u64 (ZZ .u64 (x:Int) 9223372036854775808))] {} (Zz (Zc 2 [] [(15,.b ((ZZ .u64 ((x:Int).fdiv (2 ^ 52)) 2047)==1022))] {} (Zb rfl (TC.cond ((ZZ .u64 ((x:Int).fdiv (2 ^ 52)) 2047)==1022) rfl Kr (fun h2=>?_) (fun h2=>?_))))))
  ·exact TC.region (Zc 3 [] [(3,.int .u64 (kor .u64 (ZZ .u64 (x:Int) 9223372036854775808) 4607182418800017408))] {} (Zz (Zc 1 [] [(30,.int .u64 (kor .u64 (ZZ .u64 (x:Int) 9223372036854775808) 4607182418800017408))] {} (TL.v (callFunc 202 #[.int .u64 (kor .u64 (ZZ .u64 (x:Int) 9223372036854775808) 4607182418800017408)]) 31 (.fl ((kor .u64 (ZZ .u64 (x:Int) 9223372036854775808) 4607182418800017408).toNat)) (fun w hM=>J7 Tryz.func202 Kr Kr Kr Kr) {} (Zc 3 [] [(2,.fl ((kor .u64 (ZZ .u64 (x:Int) 9223372036854775808) 4607182418800017408).toNat))] {} (Zb rfl (TC.ret (TE.ret [] (.fl ((kor .u64 (ZZ .u64 (x:Int) 9223372036854775808) 4607182418800017408).toNat)) {} (by unfold JR;refine eS (fun z=>(.fl z:Value)) ?_;exact Zm h1 (Zm h2 (rfl)))))))))))
  ·exact Yc (Zc 1 [] [(30,.int .u64 (ZZ .u64 (x:Int) 9223372036854775808))] {} (TL.v (callFunc 202 #[.int .u64 (ZZ .u64 (x:Int) 9223372036854775808)]) 31 (.fl ((ZZ .u64 (x:Int) 9223372036854775808).toNat)) (fun w hM=>J7 Tryz.func202 Kr Kr Kr Kr) {} (Zc 3 [] [(2,.fl ((ZZ .u64 (x:Int) 9223372036854775808).toNat))] {} (Zb rfl (TC.ret (TE.ret [] (.fl ((ZZ .u64 (x:Int) 9223372036854775808).toNat)) {} (by unfold JR;refine eS (fun z=>(.fl z:Value)) ?_;exact Zm h1 (Ze h2 (rfl)))))))))
 ·refine Zf (Zc 2 [] [(19,.b (decide ((ZZ .u64 ((x:Int).fdiv (2 ^ 52)) 2047)<1075)))] {} (Zb rfl (TC.cond (decide ((ZZ .u64 ((x:Int).fdiv (2 ^ 52)) 2047)<1075)) rfl Kr (fun h3=>?_) (fun h3=>?_))))
  ·refine Zf (Zc 3 [] [(4,.int .u64 (YI ((ZZ .u64 ((x:Int).fdiv (2 ^ 52)) 2047)-1023)))] {} (Zz (Zc 2 [] [(22,.int .u64 (x:Int)),(23,.int .u64 (YI ((ZZ .u64 ((x:Int).fdiv (2 ^ 52)) 2047)-1023)))] {} (TL.v (sV (binOp .shr 162 (.int .u64 2251799813685248) (.int .u64 (YI ((ZZ .u64 ((x:Int).fdiv (2 ^ 52)) 2047)-1023))))) 24 (.int .u64 ((2251799813685248:Int).fdiv (2 ^ (min (YI ((ZZ .u64 ((x:Int).fdiv (2 ^ 52)) 2047)-1023)).toNat 64)))) (fun w hM=>Td (Tt _)) {} (Zc 5 [] [(3,.int .u64 (YI ((x:Int)+((2251799813685248:Int).fdiv (2 ^ (min (YI ((ZZ .u64 ((x:Int).fdiv (2 ^ 52)) 2047)-1023)).toNat 64))))))] {} (Zb rfl (TC.region (Zc 2 [] [(26,.int .u64 (YI ((x:Int)+((2251799813685248:Int).fdiv (2 ^ (min (YI ((ZZ .u64 ((x:Int).fdiv (2 ^ 52)) 2047)-1023)).toNat 64)))))),(27,.int .u64 (YI ((ZZ .u64 ((x:Int).fdiv (2 ^ 52)) 2047)-1023)))] {} (TL.v (sV (binOp .shr 162 (.int .u64 4503599627370495) (.int .u64 (YI ((ZZ .u64 ((x:Int).fdiv (2 ^ 52)) 2047)-1023))))) 28 (.int .u64 ((4503599627370495:Int).fdiv (2 ^ (min (YI ((ZZ .u64 ((x:Int).fdiv (2 ^ 52)) 2047)-1023)).toNat 64)))) (fun w hM=>Td (Tt _)) {} (Zc 5 [] [(3,.int .u64 (Jk .u64 (YI ((x:Int)+((2251799813685248:Int).fdiv (2 ^ (min (YI ((ZZ .u64 ((x:Int).fdiv (2 ^ 52)) 2047)-1023)).toNat 64))))) ((4503599627370495:Int).fdiv (2 ^ (min (YI ((ZZ .u64 ((x:Int).fdiv (2 ^ 52)) 2047)-1023)).toNat 64)))))] {} ?_))))))))))
   generalize hr1:Jk .u64 (YI ((x:Int)+((2251799813685248:Int).fdiv (2 ^ (min (YI ((ZZ .u64 ((x:Int).fdiv (2 ^ 52)) 2047)-1023)).toNat 64))))) ((4503599627370495:Int).fdiv (2 ^ (min (YI ((ZZ .u64 ((x:Int).fdiv (2 ^ 52)) 2047)-1023)).toNat 64)))=r1
   exact Zz (Zc 1 [] [(30,.int .u64 r1)] {} (TL.v (callFunc 202 #[.int .u64 r1]) 31 (.fl r1.toNat) (fun w hM=>J7 Tryz.func202 Kr Kr Kr Kr) {} (Zc 3 [] [(2,.fl r1.toNat)] {} (Zb rfl (TC.ret (TE.ret [] (.fl r1.toNat) {} (by unfold JR;refine eS (fun z=>(.fl z:Value)) ?_;subst hr1;exact Ze h1 (Zm h3 (rfl)))))))))
  ·exact Yc (Zc 1 [] [(30,.int .u64 (x:Int))] {} (TL.v (callFunc 202 #[.int .u64 (x:Int)]) 31 (.fl ((x:Int).toNat)) (fun w hM=>J7 Tryz.func202 Kr Kr Kr Kr) {} (Zc 3 [] [(2,.fl ((x:Int).toNat))] {} (Zb rfl (TC.ret (TE.ret [] (.fl ((x:Int).toNat)) {} (by unfold JR;refine eS (fun z=>(.fl z:Value)) ?_;exact Ze h1 (Ze h3 (rfl)))))))))
def Yo (h_:Int):Int :=
 (w64 ((h_.tmod 4096)+4096)).tmod 4096
theorem KO (h_:Int) (w:World):Calls Tryz.prog 131 #[.int .i64 h_] w (Ret w (.int .i64 (Yo h_))):=by
 exact Zp (vs:=[.i h_]) (w:=w) Tryz.func131 rfl Tryz.ntmps131 rfl (Zf (Zc 1 [] [(2,.i 0)] {} (Zz (Zc 5 [] [(2,.i ((w64 ((h_.tmod 4096)+4096)).tmod 4096))] {} (Zb rfl (TC.ret (TE.ret [] (.i ((w64 ((h_.tmod 4096)+4096)).tmod 4096)) {} (by unfold Yo;refine eS (fun z=>(.i z:Value)) ?_;exact rfl))))))))
end Go.Sky
end
section
namespace Go.Sky
open Go Go.Eng
def IQ:Nat:=108434277941034398651456006058806590770502020988672402647225365833110043724152981188041206978658237868810404999173864968027749312628797068946117434761370990553775985830985208969865403702713370561656498084705517055333117848396133788936099452540808951198403605284404518280242639938506794183472678266063490224754305112385849771349981507130143345635675056097625814542446058197575058179135426945944895536158119831320483358256726475153669673451824394951647837546530541489708343166187583917930520615349823661551598421025494677218265090023289147812208471756651535590937311103205416398010684426032509233475295439387893112616138805974234684493523550919497209009306426348425467973188512473878765730890346901684278219639813212508289990714311224649485101595204024656838679194712968935173100499237888431147790165381395710888916231859167510868972927217503775074671214752524207503948420832488250160933039345587940348340839430106112025665988346402351592539424877502512801555566364447675944212953397614090681516778376523285918525244645618971765369135092018275568971202374596869202948754096419406015224626888002000553291452270247596750359269833840353635790909709747036763971106098658305690167370846755940021057134214957975059317604451000395448088740779589407774449615381539349815366767085335893889047855808433488603995451871786968077337455323549756553864839909489124084667949459237260143595365979804384298276512686461197674591847663730068099664127774825548543846212085205786274754285883899653001997322326438415726052927075325287666135482481567025011178748237456157787529461906403083152474592385928005454540603546315605859208988171857371298123526292086140625423318783279447095438331278962550069330014512480414505278325341876195099867250352372281244232474881977246694432269843195032962009036042316086083848231874730979934723613499389489953100773857409587251390585975230556845567890732250239255281688011872552500982899419849501593040449548486068064103833764940683759548844428606279708694091452296155008553060507031294863936843052349025353703898855739663235272510188481724825362571752687309917590521000969297286260284722737657245209522542063999059855963174787817725726918945080450327601709608379356190227739312496558464559522416843489778461421372302790390144095203197041038389626559144554783096495836766478766923078634840687392901988633639107403145391420295800945298869620365835921143176936770673912925126186284606791514779629695320345657949834626866960254708446096996282673037653278713227925556013542944100059670948410610533987034437657493429524322989245792480526516725312665991869958767238896313453409976068613330495534684031789887339004771504322839881969255263827017871968380137605008547946277766505978773903823762248913381884846576437539597667158342925655056343380172606405970143170603227139399299828721923556868589618042383048242882156950398661414331745406891179095389713558864633473888658009844447529194128539004150753538102376389376743620638225350358530106380341790878021867237253672437087802842537654627740297730462303689871234696434192407793614425597808195391030987953392115032598549006471134984461223865723812503933278580764444167671577865981376178697146346488136945433713629341744837102893794950846613365798124250366112500028489623610747476197122174998159923691578887669450481256505451500614438195140516240107713279586291817166977641560506613057839975319120325408805900536046743598280589787832655600629013999179839194459215566778372421368699139194638214618792201316046091778441091288000338973227211849351451270051470259989500250102738646665543727007299508011294644397639017120943056509365951371151659588418265408200715282561845706547711161666359873781446574133242282418894407110528300830901678904702526160462082720410425624725874795725897606084547091715815173841871716828099816487010404963168499131999695112684881268967610089485201751681448908212171053239565981426073468138841685662844089204253412566611153679280592558760225773099434812977342202405588451116876024836750899644587169491724279147659653439016771692206935674118012571313205489748177670489103198551976386569856940367977546335882417866992857906636174516809924351738161376580699927147046969103915759370749067100406028356221432069383542523085273618687772402479075707775513584294886574799377529914643739078469476374061723064488909370096128407894419393117907518507841478505352098819604920279641884170316065765849014345236352654430169577062941390495954380499545504002031623372393101380439963319378220185628065734856196615899811144470035119371725603047014502370583815560261591785026269922503959552544234455674486997122852989382660146483955467251256485094227620728477977563321332319158272
def XE (k:Nat):Nat:=IQ >>> (15*k)%32768
def Gu (n:Nat):Int :=
 bif Nat.ble n 1024 then (XE n:Int) else bif Nat.ble n 2048 then (XE (2048-n):Int) else bif Nat.ble n 3072 then -(XE (n-2048):Int) else -(XE (4096-n):Int)
def C6 (n:Nat):Nat:=JR (Zh 4670232813583204352 (VF (IK n)))
def chk (n:Nat):Bool:=match floatToIntVal .f64 (C6 n) .i64 with
 | some t=>decide (t=Gu n)
 | none=>false
def KA:Nat→Nat→Bool
 | _,0=>true
 | a,n+1=>chk a&&KA (a+1) n
theorem SQ (a n:Nat):KA a (n+1)=(chk a&&KA (a+1) n):=rfl
theorem Xw (n:Nat):∀ a,KA a n=true→∀ k,a≤k→k<a+n→chk k=true:=by
 induction n with
 | zero=>intro a _ k h1 h2;omega
 | succ n ih =>
  intro a h k h1 h2
  rw[SQ,aX] at h
  by_cases he:a=k
  ·rw[← he];exact h.1
  ·exact ih (a+1) h.2 k (by omega) (by omega)
theorem IR {n:Nat} (h:chk n=true):floatToIntVal .f64 (C6 n) .i64=some (Gu n):=by
 unfold chk at h
 split at h
 ·rename_i t ht
  rw[ht,of_decide_eq_true h]
 ·cases h
end Go.Sky
end
