/- Lemmas toward the given statement (part 20 of 22): Rad RadLaw TFly Mm Na LaysPlot SortPlot Compact. Each theorem states its own conditions; nothing is assumed beyond them. -/
import Derived.Test.YtjggkpkehdnhiaaGreatDoorBt19
import Derived.Test.YtjggkpkehdnhiaaGreatDoorBt12
import Derived.Test.YtjggkpkehdnhiaaGreatDoorBt04
import Derived.Test.YtjggkpkehdnhiaaGreatDoorBt03
import Derived.Shelf.SlLaysF0
import Derived.Test.YtjggkpkehdnhiaaGreatDoorRows
import Derived.Test.YtjggkpkehdnhiaaGreatDoorBt06
import Derived.Test.YtjggkpkehdnhiaaGreatDoorBt02
section
namespace Go.Sky
open Go Go.Eng
theorem J6 (x:Int):0 ≤ x * x:=by
  rcases Int.le_total 0 x with g | g
  · exact Int.mul_nonneg g g
  · rw [← Int.neg_mul_neg];exact Int.mul_nonneg (by omega) (by omega)
theorem Jt {x y:Int} (h0:0 ≤ x) (h:x ≤ y):x * x ≤ y * y:=Int.mul_le_mul h h h0 (by omega)
theorem Nu {x y:Int} (h1:-y ≤ x) (h2:x ≤ y):x * x ≤ y * y:=by
  rcases Int.le_total 0 x with g | g
  · exact Jt g h2
  · rw [← Int.neg_mul_neg];exact Jt (by omega) (by omega)
theorem L0 {x y:Int} (hy:0 ≤ y) (h:x * x ≤ y * y):-y ≤ x ∧ x ≤ y:=by
  constructor
  · rcases Int.lt_or_le x (-y) with g | g
    · exfalso
      have:=Jt (x:=y + 1) (y:=-x) (by omega) (by omega)
      rw [Int.neg_mul_neg] at this
      have e:(y + 1) * (y + 1)=y * y + 2 * y + 1:=by grind
      omega
    · exact g
  · rcases Int.lt_or_le y x with g | g
    · exfalso
      have:=Jt (x:=y + 1) (y:=x) (by omega) (by omega)
      have e:(y + 1) * (y + 1)=y * y + 2 * y + 1:=by grind
      omega
    · exact g
theorem tri {a b c d R S:Int} (hR:0 ≤ R) (hS:0 ≤ S) (h1:a * a + b * b ≤ R * R) (h2:c * c + d * d ≤ S * S):(a + c) * (a + c) + (b + d) * (b + d) ≤ (R + S) * (R + S):=by
  have hRS:0 ≤ R * S:=Int.mul_nonneg hR hS
  have e1:(a * c + b * d) * (a * c + b * d) + (a * d - b * c) * (a * d - b * c)=(a * a + b * b) * (c * c + d * d):=by grind
  have e2:=J6 (a * d - b * c)
  have e3:(a * a + b * b) * (c * c + d * d) ≤ (R * R) * (S * S):=Int.mul_le_mul h1 h2 (by have:=J6 c;have:=J6 d;omega) (J6 R)
  have e4:(R * R) * (S * S)=(R * S) * (R * S):=by grind
  have key:=(L0 hRS (x:=a * c + b * d) (by omega)).2
  have e7:(a + c) * (a + c) + (b + d) * (b + d)=(a * a + b * b) + (c * c + d * d) + 2 * (a * c + b * d):=by grind
  have e8:(R + S) * (R + S)=R * R + S * S + 2 * (R * S):=by grind
  omega
theorem TD {a b R m:Int} (hm:0 < m) (h:(m * a) * (m * a) + (m * b) * (m * b) ≤ (m * R) * (m * R)):a * a + b * b ≤ R * R:=by
  have e1:(m * a) * (m * a) + (m * b) * (m * b)=(m * m) * (a * a + b * b):=by grind
  have e2:(m * R) * (m * R)=(m * m) * (R * R):=by grind
  rw [e1,e2] at h
  exact Int.le_of_mul_le_mul_left h (Int.mul_pos hm hm)
theorem H5 {a b R m:Int} (hR:a * a + b * b ≤ R * R):(m * a) * (m * a) + (m * b) * (m * b) ≤ (m * R) * (m * R):=by
  have e1:(m * a) * (m * a) + (m * b) * (m * b)=(m * m) * (a * a + b * b):=by grind
  have e2:(m * R) * (m * R)=(m * m) * (R * R):=by grind
  rw [e1,e2]
  exact Int.mul_le_mul_of_nonneg_left hR (J6 m)
theorem Wj {Q:Nat → Prop} (h1:∀ k,k < 1024 → Q k) (h2:∀ k,Q k → Q (k + 1024)):∀ k,Q k:=by
  have key:∀ q i,i < 1024 → Q (i + 1024 * q):=by
    intro q
    induction q with
    | zero=>intro i hi;exact h1 i hi
    | succ q ih =>
      intro i hi
      rw [show i + 1024 * (q + 1)=i + 1024 * q + 1024 by omega]
      exact h2 _ (ih i hi)
  intro k
  have:=key (k / 1024) (k % 1024) (by omega)
  rwa [show k % 1024 + 1024 * (k / 1024)=k by omega] at this
theorem DG (k:Nat):(268412285 ≤ sn k * sn k + cs k * cs k ∧ sn k * sn k + cs k * cs k ≤ 268458627) ∧ (sn k - sn (k + 1)) * (sn k - sn (k + 1)) + (cs k - cs (k + 1)) * (cs k - cs (k + 1)) ≤ 729:=by
  refine Wj (Q:=fun k=>(268412285 ≤ sn k * sn k + cs k * cs k ∧ sn k * sn k + cs k * cs k ≤ 268458627) ∧ (sn k - sn (k + 1)) * (sn k - sn (k + 1)) + (cs k - cs (k + 1)) * (cs k - cs (k + 1)) ≤ 729) ?_ ?_ k
  · intro k hk
    have h:=K6 _ 1024 0 Oz k (by omega) (by omega)
    unfold Eu at h
    simp only [Bool.and_eq_true,decide_eq_true_eq] at h
    exact h
  · intro k h
    rw [show k + 1024 + 1=k + 1 + 1024 by omega,VC,VC,VD,VD]
    generalize sn k=a at *;generalize cs k=b at *;generalize sn (k + 1)=c at *;generalize cs (k + 1)=d at *
    have e1:b * b + -a * -a=a * a + b * b:=by grind
    have e2:(b - d) * (b - d) + (-a - -c) * (-a - -c)=(a - c) * (a - c) + (b - d) * (b - d):=by grind
    rw [e1,e2];exact h
theorem B6 (k j:Nat) (hj:j < 100):423801 * ((sn k - sn (k + j)) * (sn k - sn (k + j)) + (cs k - cs (k + j)) * (cs k - cs (k + j))) ≤ (16384 * ((j:Int) + 1) - 10416) * (16384 * ((j:Int) + 1) - 10416):=by
  refine Wj (Q:=fun k=>423801 * ((sn k - sn (k + j)) * (sn k - sn (k + j)) + (cs k - cs (k + j)) * (cs k - cs (k + j))) ≤ (16384 * ((j:Int) + 1) - 10416) * (16384 * ((j:Int) + 1) - 10416)) ?_ ?_ k
  · intro k hk
    have h:H4 k j=true:=by
      by_cases c1:k < 256
      · exact K6 _ 100 0 (K6 _ 256 0 Py k (by omega) (by omega)) j (by omega) (by omega)
      by_cases c2:k < 512
      · exact K6 _ 100 0 (K6 _ 256 256 Pz k (by omega) (by omega)) j (by omega) (by omega)
      by_cases c3:k < 768
      · exact K6 _ 100 0 (K6 _ 256 512 P0 k (by omega) (by omega)) j (by omega) (by omega)
      · exact K6 _ 100 0 (K6 _ 256 768 P1 k (by omega) (by omega)) j (by omega) (by omega)
    exact of_decide_eq_true h
  · intro k h
    rw [show k + 1024 + j=k + j + 1024 by omega,VC,VC,VD,VD]
    generalize sn k=a at *;generalize cs k=b at *;generalize sn (k + j)=c at *;generalize cs (k + j)=d at *
    have e2:(b - d) * (b - d) + (-a - -c) * (-a - -c)=(a - c) * (a - c) + (b - d) * (b - d):=by grind
    rw [e2];exact h
def Ew (a b x y:Int):Prop:=0 ≤ a * x + b * y ∧ 4 * ((b * x - a * y) * (b * x - a * y)) ≤ 729 * (x * x + y * y)
def Vb (h:Nat) (x y:Int):Prop:=Ew (sn h) (cs h) x y
set_option maxRecDepth 20000 in
theorem MD {k:Nat} {x y:Int} (hk:k < 4096) (h:Sec k x y):0 ≤ sn (k + 1) * x + cs (k + 1) * y:=by
  have first:∀ (i:Nat) (x y:Int),i < 1024 → 0 ≤ x → 0 < y → 0 ≤ sn (i + 1) * x + cs (i + 1) * y:=by
    intro i x y hi hx hy
    rw [M7 (by omega),M8 (by omega)]
    have a:=Int.mul_nonneg (Int.natCast_nonneg (YW (i + 1))) hx
    have b:=Int.mul_nonneg (Int.natCast_nonneg (YW (1024 - (i + 1)))) (Int.le_of_lt hy)
    omega
  have turn:∀ (i:Nat) (x y:Int),0 ≤ sn (i + 1) * -y + cs (i + 1) * x → 0 ≤ sn (i + 1024 + 1) * x + cs (i + 1024 + 1) * y:=by
    intro i x y h
    rw [show i + 1024 + 1=i + 1 + 1024 by omega,VC,VD]
    generalize sn (i + 1)=a at *;generalize cs (i + 1)=b at *
    have e:b * x + -a * y=a * -y + b * x:=by grind
    rw [e];exact h
  rcases GO hk h with a | a | a | a
  · exact first k x y a.1 a.2.1 a.2.2.1
  · have:=first (k - 1024) (-y) x (by omega) a.2.2.1 a.2.2.2.1
    have t:=turn (k - 1024) x y this
    rwa [show k - 1024 + 1024=k by omega] at t
  · have:=first (k - 2048) (-x) (-y) (by omega) a.2.2.1 a.2.2.2.1
    have t:=turn (k - 2048) (-y) x (by exact this)
    have t2:=turn (k - 2048 + 1024) x y t
    rwa [show k - 2048 + 1024 + 1024=k by omega] at t2
  · have:=first (k - 3072) y (-x) (by omega) a.2.1 a.2.2.1
    have t:=turn (k - 3072) (-x) (-y) (by rw [Int.neg_neg];exact this)
    have t2:=turn (k - 3072 + 1024) (-y) x (by exact t)
    have t3:=turn (k - 3072 + 1024 + 1024) x y t2
    rwa [show k - 3072 + 1024 + 1024 + 1024=k by omega] at t3
theorem O0 (a b x y:Int):(a * x + b * y) * (a * x + b * y) ≤ (a * a + b * b) * (x * x + y * y):=by
  have e:(a * x + b * y) * (a * x + b * y) + (a * y - b * x) * (a * y - b * x)=(a * a + b * b) * (x * x + y * y):=by grind
  have:=J6 (a * y - b * x)
  omega
theorem Nv {k:Nat} {x y:Int} (hk:k < 4096) (h:Sec k x y) :
    (cs k * x - sn k * y ≤ y * sn (k + 1) - x * cs (k + 1) → Vb k x y) ∧ (¬ cs k * x - sn k * y ≤ y * sn (k + 1) - x * cs (k + 1) → Vb (k + 1) x y):=by
  have hc:=O0 (cs k - cs (k + 1)) (-(sn k - sn (k + 1))) x y
  have hl:=(DG k).2
  have hf:=MD hk h
  obtain ⟨h1,h2,h3⟩:=h
  unfold Vb
  generalize sn k=a at *;generalize cs k=b at *;generalize sn (k + 1)=c at *;generalize cs (k + 1)=d at *
  have e0:(b - d) * (b - d) + -(a - c) * -(a - c)=(a - c) * (a - c) + (b - d) * (b - d):=by grind
  rw [e0] at hc
  have hn:0 ≤ x * x + y * y:=by have:=J6 x;have:=J6 y;omega
  have h729:((a - c) * (a - c) + (b - d) * (b - d)) * (x * x + y * y) ≤ 729 * (x * x + y * y):=Int.mul_le_mul_of_nonneg_right hl hn
  have e1:(b - d) * x + -(a - c) * y=(b * x - a * y) + (y * c - x * d):=by grind
  rw [e1] at hc
  generalize hp:b * x - a * y=p at *
  generalize hq:y * c - x * d=q at *
  constructor
  · intro hle
    have s:=Jt (x:=2 * p) (y:=p + q) (by omega) (by omega)
    have e2:(2 * p) * (2 * p)=4 * (p * p):=by grind
    exact ⟨by omega,by rw [hp];omega⟩
  · intro hlt
    have s:=Jt (x:=2 * q) (y:=p + q) (by omega) (by omega)
    have e2:(2 * q) * (2 * q)=4 * (q * q):=by grind
    have e3:d * x - c * y=-q:=by rw [← hq];grind
    exact ⟨hf,by rw [e3,Int.neg_mul_neg];omega⟩
theorem Vb.round {k:Nat} {x y:Int} (h:Vb k x y):Vb (k % 4096) x y:=by
  unfold Vb at *
  rw [Gt,Gu];exact h
section
variable {h:Nat} {x y r:Int}
theorem EC (hN:Vb h x y) (hr:0 ≤ r) (h1:r * r ≤ x * x + y * y) (h2:x * x + y * y < (r + 1) * (r + 1)) :
    (16384 * x - r * sn h) * (16384 * x - r * sn h) + (16384 * y - r * cs h) * (16384 * y - r * cs h) ≤ (16 * r + 16401) * (16 * r + 16401):=by
  obtain ⟨f,sd⟩:=hN
  have hU:=(DG h).1
  generalize sn h=a at *;generalize cs h=b at *
  obtain ⟨U,eU⟩:∃ U,a * a + b * b=U:=⟨_,rfl⟩
  obtain ⟨n,en⟩:∃ n,x * x + y * y=n:=⟨_,rfl⟩
  obtain ⟨g,eg⟩:∃ g,a * x + b * y=g:=⟨_,rfl⟩
  obtain ⟨c,ec⟩:∃ c,b * x - a * y=c:=⟨_,rfl⟩
  have lag:g * g + c * c=n * U:=by rw [← eg,← ec,← en,← eU];grind
  have ident:U * ((16384 * x - r * a) * (16384 * x - r * a) + (16384 * y - r * b) * (16384 * y - r * b))=(16384 * g - U * r) * (16384 * g - U * r) + (16384 * c) * (16384 * c):=by
    have i1:(16384 * x - r * a) * (16384 * x - r * a) + (16384 * y - r * b) * (16384 * y - r * b)=268435456 * n - 32768 * r * g + r * r * U:=by rw [← en,← eg,← eU];grind
    have i2:(16384 * g - U * r) * (16384 * g - U * r) + (16384 * c) * (16384 * c)=268435456 * (g * g + c * c) - 32768 * g * U * r + U * r * (U * r):=by grind
    rw [i1,i2,lag];grind
  rw [eU] at hU
  rw [eg] at f
  rw [ec,en] at sd
  rw [en] at h1 h2
  have cc:=J6 c
  have n0:0 ≤ n:=by have:=J6 r;omega
  have g1:g * g ≤ (16385 * (r + 1)) * (16385 * (r + 1)):=by
    have q1:n * U ≤ ((r + 1) * (r + 1)) * 268468225:=Int.mul_le_mul (by omega) (by omega) (by omega) (J6 _)
    have q2:(16385 * (r + 1)) * (16385 * (r + 1))=((r + 1) * (r + 1)) * 268468225:=by grind
    omega
  have g2:=(L0 (by omega) g1).2
  have g3:(16383 * r) * (16383 * r) ≤ g * g:=by
    have q1:(r * r) * 1073648411 ≤ n * (4 * U - 729):=Int.mul_le_mul h1 (by omega) (by omega) n0
    have q2:n * (4 * U - 729)=4 * (n * U) - 729 * n:=by grind
    have q3:(16383 * r) * (16383 * r)=(r * r) * 268402689:=by grind
    have:=J6 r
    omega
  have g4:16383 * r ≤ g:=by
    rcases Int.lt_or_le g (16383 * r) with hlt | hle
    · exfalso
      have:=Jt (x:=g + 1) (y:=16383 * r) (by omega) (by omega)
      have e:(g + 1) * (g + 1)=g * g + 2 * g + 1:=by grind
      omega
    · exact hle
  have ur1:U * r ≤ 268458627 * r:=Int.mul_le_mul_of_nonneg_right (by omega) hr
  have ur2:268412285 * r ≤ U * r:=Int.mul_le_mul_of_nonneg_right (by omega) hr
  have al1:16384 * g - U * r ≤ 39555 * r + 268451840:=by omega
  have al2:-(39555 * r + 268451840) ≤ 16384 * g - U * r:=by omega
  have c1:(2 * c) * (2 * c) ≤ (27 * (r + 1)) * (27 * (r + 1)):=by
    have q1:(2 * c) * (2 * c)=4 * (c * c):=by grind
    have q2:(27 * (r + 1)) * (27 * (r + 1))=729 * ((r + 1) * (r + 1)):=by grind
    omega
  have c2:=L0 (by omega) c1
  have b1:(16384 * g - U * r) * (16384 * g - U * r) ≤ (39555 * r + 268451840) * (39555 * r + 268451840):=Nu al2 al1
  have b2:(16384 * c) * (16384 * c) ≤ (221184 * (r + 1)) * (221184 * (r + 1)):=Nu (by omega) (by omega)
  have b3:(39555 * r + 268451840) * (39555 * r + 268451840) + (221184 * (r + 1)) * (221184 * (r + 1)) ≤ (39555 * r + 268451840 + 221184 * (r + 1)) * (39555 * r + 268451840 + 221184 * (r + 1)):=by
    have q:=Int.mul_nonneg (show 0 ≤ 39555 * r + 268451840 by omega) (show 0 ≤ 221184 * (r + 1) by omega)
    generalize 39555 * r + 268451840=A at *
    generalize 221184 * (r + 1)=B at *
    have e:(A + B) * (A + B)=A * A + B * B + 2 * (A * B):=by grind
    omega
  have b4:(39555 * r + 268451840 + 221184 * (r + 1)) * (39555 * r + 268451840 + 221184 * (r + 1)) ≤ (16383 * (16 * r + 16401)) * (16383 * (16 * r + 16401)):=Jt (by omega) (by omega)
  have b5:(16383 * (16 * r + 16401)) * (16383 * (16 * r + 16401)) ≤ U * ((16 * r + 16401) * (16 * r + 16401)):=by
    have q:(16383 * (16 * r + 16401)) * (16383 * (16 * r + 16401))=268402689 * ((16 * r + 16401) * (16 * r + 16401)):=by grind
    rw [q]
    exact Int.mul_le_mul_of_nonneg_right (by omega) (J6 _)
  refine Int.le_of_mul_le_mul_left (a:=U) ?_ (by omega)
  omega
theorem TF {p:Int} (hN:Vb h x y) (hr:0 ≤ r) (h1:r * r ≤ x * x + y * y) (h2:x * x + y * y < (r + 1) * (r + 1)) (hp:0 ≤ p) {m:Int} (hm1:p - r ≤ m) (hm2:r - p ≤ m) :
    (16384 * x - p * sn h) * (16384 * x - p * sn h) + (16384 * y - p * cs h) * (16384 * y - p * cs h) ≤ (16384 * m + 16 * p + 16401) * (16384 * m + 16 * p + 16401):=by
  have hE:=EC hN hr h1 h2
  have hU:=(DG h).1
  generalize sn h=a at *;generalize cs h=b at *
  by_cases c:r ≤ p
  · have q1:(-((p - r) * a)) * (-((p - r) * a)) + (-((p - r) * b)) * (-((p - r) * b)) ≤ (16385 * (p - r)) * (16385 * (p - r)):=by
      have e1:(-((p - r) * a)) * (-((p - r) * a)) + (-((p - r) * b)) * (-((p - r) * b))=((p - r) * (p - r)) * (a * a + b * b):=by grind
      have e2:(16385 * (p - r)) * (16385 * (p - r))=((p - r) * (p - r)) * 268468225:=by grind
      rw [e1,e2]
      exact Int.mul_le_mul_of_nonneg_left (by omega) (J6 _)
    have t:=tri (by omega) (by omega) hE q1
    have e3:16384 * x - r * a + -((p - r) * a)=16384 * x - p * a:=by grind
    have e4:16384 * y - r * b + -((p - r) * b)=16384 * y - p * b:=by grind
    rw [e3,e4] at t
    exact Int.le_trans t (Jt (by omega) (by omega))
  · have hrp:0 < r:=by omega
    refine Int.le_trans ?_ (Jt (x:=16384 * (r - p) + 16 * p + 16401) (by omega) (by omega))
    refine TD hrp ?_
    have q1:(16384 * (r - p) * x) * (16384 * (r - p) * x) + (16384 * (r - p) * y) * (16384 * (r - p) * y) ≤ (16384 * (r - p) * (r + 1)) * (16384 * (r - p) * (r + 1)):=by
      refine H5 ?_
      omega
    have q2:=H5 (m:=p) hE
    have n1:0 ≤ 16384 * (r - p) * (r + 1):=Int.mul_nonneg (by omega) (by omega)
    have n2:0 ≤ p * (16 * r + 16401):=Int.mul_nonneg hp (by omega)
    have t:=tri n1 n2 q1 q2
    have e3:16384 * (r - p) * x + p * (16384 * x - r * a)=r * (16384 * x - p * a):=by grind
    have e4:16384 * (r - p) * y + p * (16384 * y - r * b)=r * (16384 * y - p * b):=by grind
    rw [e3,e4] at t
    refine Int.le_trans t (Jt (by omega) ?_)
    have e5:r * (16384 * (r - p) + 16 * p + 16401) - (16384 * (r - p) * (r + 1) + p * (16 * r + 16401))=17 * (r - p):=by grind
    omega
theorem H6 {p A R e vx vy:Int} {g j:Nat} (hN:Vb h x y) (hr:0 ≤ r) (h1:r * r ≤ x * x + y * y) (h2:x * x + y * y < (r + 1) * (r + 1)) (hp:0 ≤ p) (hm1:p - r ≤ R - 1) (hm2:r - p ≤ R - 1)
    (hg:g=h + j ∨ h=g + j) (hj:(j:Int) + 1 ≤ A) (hA:A ≤ 100) (hvx:-8192 ≤ p * sn g - 16384 * vx ∧ p * sn g - 16384 * vx ≤ 8192) (hvy:-8192 ≤ p * cs g - 16384 * vy ∧ p * cs g - 16384 * vy ≤ 8192)
    (he:651 * (R + 2) + p * A ≤ 651 * e):(x - vx) * (x - vx) + (y - vy) * (y - vy) ≤ e * e:=by
  have t1:=H5 (m:=651) (TF hN hr h1 h2 hp hm1 hm2)
  have hch:423801 * ((sn h - sn g) * (sn h - sn g) + (cs h - cs g) * (cs h - cs g)) ≤ (16384 * ((j:Int) + 1) - 10416) * (16384 * ((j:Int) + 1) - 10416):=by
    rcases hg with rfl | rfl
    · exact B6 h j (by omega)
    · have:=B6 g j (by omega)
      generalize sn g=a at *;generalize cs g=b at *;generalize sn (g + j)=c at *;generalize cs (g + j)=d at *
      have e:(c - a) * (c - a) + (d - b) * (d - b)=(a - c) * (a - c) + (b - d) * (b - d):=by grind
      rw [e];exact this
  have hch2:(651 * (sn h - sn g)) * (651 * (sn h - sn g)) + (651 * (cs h - cs g)) * (651 * (cs h - cs g)) ≤ (16384 * A - 10416) * (16384 * A - 10416):=by
    have e:(651 * (sn h - sn g)) * (651 * (sn h - sn g)) + (651 * (cs h - cs g)) * (651 * (cs h - cs g))=423801 * ((sn h - sn g) * (sn h - sn g) + (cs h - cs g) * (cs h - cs g)):=by grind
    rw [e]
    exact Int.le_trans hch (Jt (by omega) (by omega))
  have t2:=H5 (m:=p) hch2
  have t3:(651 * (p * sn g - 16384 * vx)) * (651 * (p * sn g - 16384 * vx)) + (651 * (p * cs g - 16384 * vy)) * (651 * (p * cs g - 16384 * vy)) ≤ (651 * 11586) * (651 * 11586):=by
    refine H5 ?_
    have a:=Nu hvx.1 hvx.2
    have b:=Nu hvy.1 hvy.2
    omega
  have n2:0 ≤ p * (16384 * A - 10416):=Int.mul_nonneg hp (by omega)
  have u1:=tri (by omega) n2 t1 t2
  have u2:=tri (by omega) (by decide) u1 t3
  generalize sn h=a at *;generalize cs h=b at *;generalize sn g=c at *;generalize cs g=d at *
  have e1:651 * (16384 * x - p * a) + p * (651 * (a - c)) + 651 * (p * c - 16384 * vx)=10665984 * (x - vx):=by grind
  have e2:651 * (16384 * y - p * b) + p * (651 * (b - d)) + 651 * (p * d - 16384 * vy)=10665984 * (y - vy):=by grind
  rw [e1,e2] at u2
  refine TD (m:=10665984) (by decide) (Int.le_trans u2 (Jt (by omega) ?_))
  have e3:p * (16384 * A - 10416)=16384 * (p * A) - 10416 * p:=by grind
  omega
end
end Go.Sky
end
section
namespace Go.Sky
open Go Go.Eng
theorem DI {n a b:Int}:ZH n a b=false → a ≤ n ∧ n ≤ b:=by
  unfold ZH
  intro h
  simp only [Bool.or_eq_false_iff,decide_eq_false_iff_not] at h
  omega
theorem rin {n a b:Int} (h:a ≤ n ∧ n ≤ b):ZH n a b=false:=by
  unfold ZH
  simp only [Bool.or_eq_false_iff,decide_eq_false_iff_not]
  omega
def PIn (p:P):Prop:=-1000000 ≤ p.X ∧ p.X ≤ 1000000 ∧ -1000000 ≤ p.Y ∧ p.Y ≤ 1000000
theorem ME {p:P} (h:Yf p=0):PIn p:=by
  unfold Yf at h
  unfold PIn
  cases hc:((((decide (p.X < (-1000000))) || (decide (p.X > 1000000))) || (decide (p.Y < (-1000000)))) || (decide (p.Y > 1000000))) with
  | true=>rw [hc] at h;cases h
  | false =>
    simp only [Bool.or_eq_false_iff,decide_eq_false_iff_not] at hc
    omega
structure DJ (s:Zh):Prop where
  id:0 ≤ s.ID ∧ s.ID ≤ 255
  at_:PIn s.At
  reach:1 ≤ s.Reach ∧ s.Reach ≤ 1000000
  rerr:1 ≤ s.RangeError ∧ s.RangeError ≤ 10000
  aerr:1 ≤ s.AzimuthError ∧ s.AzimuthError ≤ 100
theorem Gz {a:Int} (h:(a != 0)=false):a=0:=by simpa using h
theorem H7 {s:Zh} (h:Yc s=0):DJ s:=by
  unfold Yc at h
  simp only at h
  cases h1:ZH s.ID 0 255 <;> rw [h1] at h <;> simp only [cond_true,cond_false] at h
  case true=>cases h
  cases h2:(Yf s.At != 0) <;> rw [h2] at h <;> simp only [cond_true,cond_false] at h
  case true=>cases h
  cases h3:ZH s.Reach 1 1000000 <;> rw [h3] at h <;> simp only [cond_true,cond_false] at h
  case true=>cases h
  cases h4:ZH s.RangeError 1 10000 <;> rw [h4] at h <;> simp only [cond_true,cond_false] at h
  case true=>cases h
  cases h5:ZH s.AzimuthError 1 100 <;> rw [h5] at h <;> simp only [cond_true,cond_false] at h
  case true=>cases h
  exact ⟨DI h1,ME (Gz h2),DI h3,DI h4,DI h5⟩
structure TI (t:Zf):Prop where
  time:0 ≤ t.Time ∧ t.Time ≤ 200000
  at_:PIn t.At
  height:0 ≤ t.Height ∧ t.Height ≤ 60000
  code:-1 ≤ t.Code ∧ t.Code ≤ 4095
theorem P2 {t:Zf} (h:Zy t=0):TI t:=by
  unfold Zy at h
  simp only at h
  cases h1:ZH t.Time 0 200000 <;> rw [h1] at h <;> simp only [cond_true,cond_false] at h
  case true=>cases h
  cases h2:(Yf t.At != 0) <;> rw [h2] at h <;> simp only [cond_true,cond_false] at h
  case true=>cases h
  cases h3:ZH t.Height 0 60000 <;> rw [h3] at h <;> simp only [cond_true,cond_false] at h
  case true=>cases h
  cases h4:ZH t.Code (-1) 4095 <;> rw [h4] at h <;> simp only [cond_true,cond_false] at h
  case true=>cases h
  exact ⟨DI h1,ME (Gz h2),DI h3,DI h4⟩
theorem Uc {x n:Int} (h:-n ≤ x ∧ x ≤ n):0 ≤ x * x ∧ x * x ≤ n * n:=⟨J6 x,Nu h.1 h.2⟩
theorem Un {p q:P} (hp:PIn p) (hq:PIn q):ZV p q=(p.X - q.X) * (p.X - q.X) + (p.Y - q.Y) * (p.Y - q.Y) ∧ (p.X - q.X) * (p.X - q.X) + (p.Y - q.Y) * (p.Y - q.Y) ≤ 8000000000000:=by
  unfold PIn at hp hq
  have a:=Uc (x:=p.X - q.X) (n:=2000000) (by omega)
  have b:=Uc (x:=p.Y - q.Y) (n:=2000000) (by omega)
  unfold ZV Qz Vk
  simp only
  rw [Zm (x:=p.X - q.X) (by omega),Zm (x:=p.Y - q.Y) (by omega),Zm (x:=(p.X - q.X) * (p.X - q.X)) (by omega),Zm (x:=(p.Y - q.Y) * (p.Y - q.Y)) (by omega),Zm (by omega)]
  exact ⟨rfl,by omega⟩
def sqr (a b:P):Int:=w64 ((w64 ((w64 (a.X - b.X)) * (w64 (a.X - b.X)))) + (w64 ((w64 (a.Y - b.Y)) * (w64 (a.Y - b.Y)))))
theorem DK {p q:P} (hp:PIn p) (hq:PIn q):sqr p q=(p.X - q.X) * (p.X - q.X) + (p.Y - q.Y) * (p.Y - q.Y):=by
  unfold PIn at hp hq
  have a:=Uc (x:=p.X - q.X) (n:=2000000) (by omega)
  have b:=Uc (x:=p.Y - q.Y) (n:=2000000) (by omega)
  unfold sqr
  rw [Zm (x:=p.X - q.X) (by omega),Zm (x:=p.Y - q.Y) (by omega),Zm (x:=(p.X - q.X) * (p.X - q.X)) (by omega),Zm (x:=(p.Y - q.Y) * (p.Y - q.Y)) (by omega),Zm (by omega)]
theorem DL (n:Int) (hn:n ≤ 8000000000000):∀ (j:Nat) (a b:Int),(0 ≤ a ∧ a ≤ b ∧ b ≤ 3037000499 ∧ b - a < 2 ^ j) → a * a ≤ n → n < (b + 1) * (b + 1) → ∃ R,X3 n (j + 1) a b=some R ∧ 0 ≤ R ∧ R * R ≤ n ∧ n < (R + 1) * (R + 1)
  | 0,a,b,h,h5,h6=>by
    have e:(2:Int) ^ 0=1:=rfl
    have hab:a=b:=by omega
    exact ⟨a,by rw [X3,decide_eq_false (by omega)];rfl,h.1,h5,by rw [hab];exact h6⟩
  | j + 1,a,b,h,h5,h6=>by
    have e:(2:Int) ^ (j + 1)=2 * 2 ^ j:=by rw [Int.pow_succ];omega
    by_cases hk:a < b
    · have w1:w64 (w64 (b - a) + 1)=b - a + 1:=by rw [Zm (x:=b - a) (by omega),Zm (by omega)]
      have d1:(b - a + 1).tdiv 2=(b - a + 1) / 2:=Int.tdiv_eq_ediv_of_nonneg (by omega)
      have w2:w64 ((w64 (w64 (b - a) + 1)).tdiv 2)=(b - a + 1) / 2:=by rw [w1,d1,Zm (by omega)]
      have w3:w64 (a + w64 ((w64 (w64 (b - a) + 1)).tdiv 2))=a + (b - a + 1) / 2:=by rw [w2,Zm (by omega)]
      have m1:=Uc (x:=a + (b - a + 1) / 2) (n:=3037000499) (by omega)
      rw [X3,decide_eq_true hk]
      simp only [cond_true,w3]
      rw [Zm (x:=(a + (b - a + 1) / 2) * (a + (b - a + 1) / 2)) (by omega)]
      by_cases hc:(a + (b - a + 1) / 2) * (a + (b - a + 1) / 2) ≤ n
      · rw [decide_eq_true hc,cond_true]
        exact DL n hn j _ b (by omega) hc h6
      · rw [decide_eq_false hc,cond_false,Zm (by omega)]
        exact DL n hn j a _ (by omega) h5 (by rw [show a + (b - a + 1) / 2 - 1 + 1=a + (b - a + 1) / 2 by omega];omega)
    · have hab:a=b:=by omega
      exact ⟨a,by rw [X3,decide_eq_false hk];rfl,h.1,h5,by rw [hab];exact h6⟩
theorem DN {n:Int} (h:0 ≤ n ∧ n ≤ 8000000000000):0 ≤ X4 n ∧ X4 n * X4 n ≤ n ∧ n < (X4 n + 1) * (X4 n + 1):=by
  by_cases h0:n ≤ 0
  · have e:X4 n=0:=by unfold X4;rw [decide_eq_true h0];rfl
    rw [e];omega
  · obtain ⟨R,h1,h2⟩:=DL n h.2 33 0 3037000499 (by decide) (by omega) (by omega)
    have e:X4 n=R:=by unfold X4 Y3;rw [decide_eq_false h0,cond_false,h1];rfl
    rw [e];exact h2
theorem TJ (p q:P):(XU p q).1=X4 (ZV p q):=by
  unfold XU
  simp only
  cases decide (w64 (X4 (ZV p q) * X4 (ZV p q)) < ZV p q) <;> rfl
theorem TK {s:Zh} {far:Int} (hs:DJ s) (hf:0 ≤ far ∧ far ≤ 2000000) (h:Yc s=0):(Qo s far).1=s.RangeError + -(-(far * s.AzimuthError) / 651) + -(-far / 23170) + 2 ∧ 0 ≤ far * s.AzimuthError:=by
  have hm:0 ≤ far * s.AzimuthError ∧ far * s.AzimuthError ≤ 200000000:=by
    have a:=hs.aerr
    exact ⟨Int.mul_nonneg hf.1 (by omega),Int.le_trans (Int.mul_le_mul hf.2 a.2 (by omega) (by decide)) (by decide)⟩
  have r:=hs.rerr
  refine ⟨?_,hm.1⟩
  unfold Qo
  simp only
  rw [h,rin (show (0:Int) ≤ far ∧ far ≤ 2000000 from hf)]
  simp only [bne_self_eq_false,cond_false]
  rw [Zm (x:=far * s.AzimuthError) (by omega),KC (by decide) (by omega),KC (by decide) (by omega)]
  simp only
  rw [Zm (x:=s.RangeError + -(-(far * s.AzimuthError) / 651)) (by omega),Zm (x:=s.RangeError + -(-(far * s.AzimuthError) / 651) + -(-far / 23170)) (by omega),Zm (by omega)]
theorem Uo (n:Int):-8192 ≤ n - 16384 * Xq n ∧ n - 16384 * Xq n ≤ 8192:=by unfold Xq;split <;> omega
theorem TM {g:Nat} {p:Int} (hp:0 ≤ p ∧ p ≤ 2000000):Q6 g p=(⟨Xq (p * sn g),Xq (p * cs g)⟩,0):=by
  have a:=KN (B1 g) (b:=p) (by omega)
  have b:=KN (B2 g) (b:=p) (by omega)
  unfold Q6
  simp only
  rw [D7,D8,decide_eq_false (show ¬ p < 0 by omega),decide_eq_false (show ¬ p > 2000000 by omega)]
  simp only [Bool.or_self,cond_false]
  rw [Zm (by rw [Int.mul_comm];omega),Zm (by rw [Int.mul_comm];omega)]
theorem P3 {g:Nat} {p:Int} (hp:0 ≤ p ∧ p ≤ 2000000):(-2000002 ≤ Xq (p * sn g) ∧ Xq (p * sn g) ≤ 2000002) ∧ (-2000002 ≤ Xq (p * cs g) ∧ Xq (p * cs g) ≤ 2000002):=by
  have a:=KN (B1 g) (b:=p) (by omega)
  have b:=KN (B2 g) (b:=p) (by omega)
  rw [Int.mul_comm] at a b
  have c:=Uo (p * sn g)
  have d:=Uo (p * cs g)
  omega
theorem W8 {s:Zh} {p:Zl} (h:(ZG s p).2=0):DJ s ∧ (0 ≤ p.Range ∧ p.Range ≤ 2000000) ∧ (0 ≤ p.Azimuth ∧ p.Azimuth ≤ 4095) ∧ ∃ vx vy:Int,vx=Xq (p.Range * sn p.Azimuth.toNat) ∧ vy=Xq (p.Range * cs p.Azimuth.toNat) ∧
    (ZG s p).1.At=⟨s.At.X + vx,s.At.Y + vy⟩ ∧ PIn (ZG s p).1.At ∧ (ZG s p).1.Error=s.RangeError + -(-(p.Range * s.AzimuthError) / 651) + -(-p.Range / 23170) + 2 ∧ (ZG s p).1.Error ≤ 1000000 ∧
    (ZG s p).1.Time=p.Time ∧ (ZG s p).1.Height=p.Height ∧ (ZG s p).1.Code=p.Code:=by
  unfold ZG at h ⊢
  simp only at h ⊢
  cases h1:(Yc s != 0) <;> rw [h1] at h <;> simp only [cond_true,cond_false] at h ⊢
  case true=>rw [h] at h1;cases h1
  cases h2:(ZL p != 0) <;> rw [h2] at h <;> simp only [cond_true,cond_false] at h ⊢
  case true=>rw [h] at h2;cases h2
  cases h3:(p.Radar != s.ID) <;> rw [h3] at h <;> simp only [cond_true,cond_false] at h ⊢
  case true=>cases h
  have hs:=H7 (Gz h1)
  have hp:(0 ≤ p.Range ∧ p.Range ≤ 2000000) ∧ (0 ≤ p.Azimuth ∧ p.Azimuth ≤ 4095):=by
    have q:=Gz h2
    unfold ZL at q
    simp only at q
    cases g1:ZH p.Radar 0 255 <;> rw [g1] at q <;> simp only [cond_true,cond_false] at q
    case true=>cases q
    cases g2:ZH p.Time 0 200000 <;> rw [g2] at q <;> simp only [cond_true,cond_false] at q
    case true=>cases q
    cases g3:ZH p.Range 0 2000000 <;> rw [g3] at q <;> simp only [cond_true,cond_false] at q
    case true=>cases q
    cases g4:ZH p.Azimuth 0 4095 <;> rw [g4] at q <;> simp only [cond_true,cond_false] at q
    case true=>cases q
    exact ⟨DI g3,DI g4⟩
  have hz:(p.Azimuth.toNat:Int)=p.Azimuth:=Int.toNat_of_nonneg hp.2.1
  have hv:=TM (g:=p.Azimuth.toNat) hp.1
  rw [hz] at hv
  rw [hv] at h ⊢
  have hb:=P3 (g:=p.Azimuth.toNat) hp.1
  have ha:=hs.at_
  have he:=(TK hs hp.1 (Gz h1)).1
  unfold PIn at ha
  simp only at h ⊢
  have hadd:Qp s.At ⟨Xq (p.Range * sn p.Azimuth.toNat),Xq (p.Range * cs p.Azimuth.toNat)⟩=⟨s.At.X + Xq (p.Range * sn p.Azimuth.toNat),s.At.Y + Xq (p.Range * cs p.Azimuth.toNat)⟩:=by
    unfold Qp
    simp only
    rw [Zm (by omega),Zm (by omega)]
  rw [hadd] at h ⊢
  cases h4:((Yf ⟨s.At.X + Xq (p.Range * sn p.Azimuth.toNat),s.At.Y + Xq (p.Range * cs p.Azimuth.toNat)⟩ != 0) || (decide ((Qo s p.Range).1 > 1000000))) <;> rw [h4] at h <;> simp only [cond_true,cond_false] at h ⊢
  case true=>cases h
  rw [Bool.or_eq_false_iff] at h4
  have h5:=of_decide_eq_false h4.2
  exact ⟨hs,hp.1,hp.2,_,_,rfl,rfl,rfl,ME (Gz h4.1),he,by omega,by first | trivial | simp⟩
theorem Kq {s:Zh} {t:Zf} (h:(Z3 s t).2=0):Yc s=0 ∧ DJ s ∧ TI t ∧ ZQ s.At t.At s.Reach=true ∧
    (Z3 s t).1=⟨s.ID,t.Time,X4 (ZV s.At t.At),if s.At=t.At then 0 else (ofF (Qz t.At s.At)).1,t.Height,t.Code⟩:=by
  unfold Z3 at h ⊢
  simp only at h ⊢
  cases h1:(Yc s != 0) <;> rw [h1] at h <;> simp only [cond_true,cond_false] at h ⊢
  case true=>rw [h] at h1;cases h1
  cases h2:(Zy t != 0) <;> rw [h2] at h <;> simp only [cond_true,cond_false] at h ⊢
  case true=>rw [h] at h2;cases h2
  cases h3:ZQ s.At t.At s.Reach <;> rw [h3] at h <;> simp only [Bool.not_false,Bool.not_true,cond_true,cond_false] at h ⊢
  · cases h
  refine ⟨Gz h1,H7 (Gz h1),P2 (Gz h2),by first | rfl | trivial,?_⟩
  rw [TJ,P.eqb_eq]
  by_cases he:s.At=t.At
  · rw [decide_eq_true he,if_pos he];rfl
  · rw [decide_eq_false he,if_neg he];rfl
theorem L1 {v:P} (hv:KQ v) (h0:¬ (v.X=0 ∧ v.Y=0)):(0 ≤ (ofF v).1 ∧ (ofF v).1 < 4096) ∧ Vb (ofF v).1.toNat v.X v.Y:=by
  obtain ⟨h1,h2⟩:=W7 h0
  obtain ⟨n1,n2⟩:=Nv h1 h2
  unfold KQ at hv
  unfold ofF
  rw [if_neg (by omega),if_neg h0]
  simp only
  by_cases c:cs (UJ v.X v.Y) * v.X - sn (UJ v.X v.Y) * v.Y ≤ v.Y * sn (UJ v.X v.Y + 1) - v.X * cs (UJ v.X v.Y + 1)
  · rw [if_pos c,Int.toNat_natCast]
    exact ⟨by omega,n1 c⟩
  · rw [if_neg c,Int.toNat_natCast]
    have n:=n2 c
    refine ⟨by omega,?_⟩
    unfold Vb at n ⊢
    rw [Gt,Gu];exact n
theorem Ey (k:Nat):sn (k + 4096)=sn k:=by unfold sn;rw [Nat.add_mod_right]
theorem Ez (k:Nat):cs (k + 4096)=cs k:=by unfold cs;rw [show (k + 4096 + 1024) % 4096=(k + 1024) % 4096 by omega]
theorem MF {s:Zh} {t:Zf} {p:Zl} {u:Int} (hs:(Z3 s t).2=0) (hne:s.At ≠ t.At) (hr:p.Range - (Z3 s t).1.Range ≤ s.RangeError - 1 ∧ (Z3 s t).1.Range - p.Range ≤ s.RangeError - 1)
    (hu:1 - s.AzimuthError ≤ u ∧ u ≤ s.AzimuthError - 1) (ha:p.Azimuth=((Z3 s t).1.Azimuth + u + 4096) % 4096) (hx:(ZG s p).2=0) :
    sqr (ZG s p).1.At t.At ≤ (ZG s p).1.Error * (ZG s p).1.Error:=by
  obtain ⟨_,hS,hT,hw,hp⟩:=Kq hs
  rw [hp] at hr ha
  simp only [if_neg hne] at hr ha
  obtain ⟨_,h1,h2,vx,vy,e1,e2,e3,e4,e5,e6,_⟩:=W8 hx
  rw [DK e4 hT.at_,e3]
  simp only
  have q:=Un hS.at_ hT.at_
  have a1:=hS.at_
  have a2:=hT.at_
  unfold PIn at a1 a2
  have hX:Qz t.At s.At=⟨t.At.X - s.At.X,t.At.Y - s.At.Y⟩:=by unfold Qz;rw [Zm (by omega),Zm (by omega)]
  have h0:¬ (t.At.X - s.At.X=0 ∧ t.At.Y - s.At.Y=0):=by
    rintro ⟨z1,z2⟩
    refine hne ?_
    have b1:s.At.X=t.At.X:=by omega
    have b2:s.At.Y=t.At.Y:=by omega
    rcases hsA:s.At with ⟨sx,sy⟩
    rcases htA:t.At with ⟨tx,ty⟩
    rw [hsA,htA] at b1 b2
    simp only at b1 b2
    rw [b1,b2]
  obtain ⟨o1,o2⟩:=L1 (v:=⟨t.At.X - s.At.X,t.At.Y - s.At.Y⟩) (by unfold KQ;simp only;omega) h0
  rw [hX] at ha
  simp only at o2
  generalize (ofF ⟨t.At.X - s.At.X,t.At.Y - s.At.Y⟩).1=H at o1 o2 ha
  rw [q.1] at hr
  have sqs:(s.At.X - t.At.X) * (s.At.X - t.At.X) + (s.At.Y - t.At.Y) * (s.At.Y - t.At.Y)=(t.At.X - s.At.X) * (t.At.X - s.At.X) + (t.At.Y - s.At.Y) * (t.At.Y - s.At.Y):=by grind
  have n0:=J6 (s.At.X - t.At.X)
  have n1:=J6 (s.At.Y - t.At.Y)
  obtain ⟨r0,r1,r2⟩:=DN (n:=(s.At.X - t.At.X) * (s.At.X - t.At.X) + (s.At.Y - t.At.Y) * (s.At.Y - t.At.Y)) ⟨by omega,q.2⟩
  generalize X4 ((s.At.X - t.At.X) * (s.At.X - t.At.X) + (s.At.Y - t.At.Y) * (s.At.Y - t.At.Y))=r at r0 r1 r2 hr
  rw [sqs] at r1 r2
  have neg:(s.At.X + vx - t.At.X) * (s.At.X + vx - t.At.X) + (s.At.Y + vy - t.At.Y) * (s.At.Y + vy - t.At.Y)=(t.At.X - s.At.X - vx) * (t.At.X - s.At.X - vx) + (t.At.Y - s.At.Y - vy) * (t.At.Y - s.At.Y - vy):=by grind
  rw [neg]
  have b1:=Uo (p.Range * sn p.Azimuth.toNat)
  have b2:=Uo (p.Range * cs p.Azimuth.toNat)
  rw [← e1] at b1
  rw [← e2] at b2
  have aerr:=hS.aerr
  have hm:=Int.mul_nonneg h1.1 (show (0:Int) ≤ s.AzimuthError by omega)
  have he:651 * (s.RangeError + 2) + p.Range * s.AzimuthError ≤ 651 * (ZG s p).1.Error:=by
    rw [e5]
    generalize p.Range * s.AzimuthError=m at *
    omega
  by_cases hu0:0 ≤ u
  · refine H6 (h:=H.toNat) (g:=H.toNat + u.toNat) (j:=u.toNat) (r:=r) (p:=p.Range) (A:=s.AzimuthError) (R:=s.RangeError) o2 r0 r1 r2 h1.1 hr.1 hr.2 (.inl rfl) (by omega) aerr.2 ?_ ?_ he
    · rw [← Gt (H.toNat + u.toNat),show (H.toNat + u.toNat) % 4096=p.Azimuth.toNat by omega];exact b1
    · rw [← Gu (H.toNat + u.toNat),show (H.toNat + u.toNat) % 4096=p.Azimuth.toNat by omega];exact b2
  · have o3:Vb (H.toNat + 4096) (t.At.X - s.At.X) (t.At.Y - s.At.Y):=by unfold Vb at o2 ⊢;rw [Ey,Ez];exact o2
    refine H6 (h:=H.toNat + 4096) (g:=(H + 4096 + u).toNat) (j:=(-u).toNat) (r:=r) (p:=p.Range) (A:=s.AzimuthError) (R:=s.RangeError) o3 r0 r1 r2 h1.1 hr.1 hr.2 (.inr (by omega)) (by omega) aerr.2 ?_ ?_ he
    · rw [← Gt (H + 4096 + u).toNat,show (H + 4096 + u).toNat % 4096=p.Azimuth.toNat by omega];exact b1
    · rw [← Gu (H + 4096 + u).toNat,show (H + 4096 + u).toNat % 4096=p.Azimuth.toNat by omega];exact b2
theorem Nw {p q:P} {d:Int} (hp:PIn p) (hq:PIn q) (hd:1 ≤ d ∧ d ≤ 1000000) (h:ZQ p q d=true):(p.X - q.X) * (p.X - q.X) + (p.Y - q.Y) * (p.Y - q.Y) ≤ d * d:=by
  have s:=Uc (x:=d) (n:=1000000) (by omega)
  unfold ZQ at h
  simp only at h
  rw [(Un hp hq).1,Zm (x:=d * d) (by omega)] at h
  cases h1:((decide (d ≥ 0)) && (decide (d ≤ 8000000))) with
  | false=>rw [h1] at h;simp at h
  | true =>
    rw [h1] at h
    simpa using h
theorem H8 {s:Zh} {t:Zf} (h:(Z3 s t).2=0):0 ≤ (Z3 s t).1.Range ∧ (Z3 s t).1.Range ≤ 1000000:=by
  obtain ⟨_,hS,hT,hw,hp⟩:=Kq h
  rw [hp]
  simp only
  have q:=Un hS.at_ hT.at_
  have b:=Nw hS.at_ hT.at_ hS.reach hw
  have n0:=J6 (s.At.X - t.At.X)
  have n1:=J6 (s.At.Y - t.At.Y)
  rw [q.1]
  obtain ⟨r0,r1,_⟩:=DN (n:=(s.At.X - t.At.X) * (s.At.X - t.At.X) + (s.At.Y - t.At.Y) * (s.At.Y - t.At.Y)) ⟨by omega,q.2⟩
  have:=(L0 (y:=s.Reach) (by have:=hS.reach;omega) (Int.le_trans r1 b)).2
  have:=hS.reach
  omega
theorem VE {s:Zh} {t:Zf} (h:(Z3 s t).2=0):0 ≤ (Z3 s t).1.Azimuth ∧ (Z3 s t).1.Azimuth ≤ 4095:=by
  obtain ⟨_,hS,hT,hw,hp⟩:=Kq h
  rw [hp]
  simp only
  by_cases he:s.At=t.At
  · rw [if_pos he];decide
  rw [if_neg he]
  have a1:=hS.at_
  have a2:=hT.at_
  unfold PIn at a1 a2
  have hX:Qz t.At s.At=⟨t.At.X - s.At.X,t.At.Y - s.At.Y⟩:=by unfold Qz;rw [Zm (by omega),Zm (by omega)]
  by_cases h0:t.At.X - s.At.X=0 ∧ t.At.Y - s.At.Y=0
  · rw [hX]
    have z:=KX (v:=⟨t.At.X - s.At.X,t.At.Y - s.At.Y⟩) (by unfold KQ;simp only;omega) h0
    rw [← z.1];decide
  · have:=(L1 (v:=⟨t.At.X - s.At.X,t.At.Y - s.At.Y⟩) (by unfold KQ;simp only;omega) h0).1
    rw [hX];omega
theorem UM {s:Zh} {t:Zf} (h:(Z3 s t).2=0):ZL (Z3 s t).1=0 ∧ (Z3 s t).1.Radar=s.ID:=by
  have a:=H8 h
  have b:=VE h
  obtain ⟨_,hS,hT,hw,hp⟩:=Kq h
  have e1:(Z3 s t).1.Radar=s.ID:=by rw [hp]
  have e2:(Z3 s t).1.Time=t.Time:=by rw [hp]
  have e3:(Z3 s t).1.Height=t.Height:=by rw [hp]
  have e4:(Z3 s t).1.Code=t.Code:=by rw [hp]
  refine ⟨?_,e1⟩
  unfold ZL
  simp only
  rw [e1,e2,e3,e4,rin (show (0:Int) ≤ s.ID ∧ s.ID ≤ 255 from hS.id),rin (show (0:Int) ≤ t.Time ∧ t.Time ≤ 200000 from hT.time),rin (show (0:Int) ≤ (Z3 s t).1.Range ∧ (Z3 s t).1.Range ≤ 2000000 by omega),rin (show (0:Int) ≤ (Z3 s t).1.Azimuth ∧ (Z3 s t).1.Azimuth ≤ 4095 by omega),rin (show (0:Int) ≤ t.Height ∧ t.Height ≤ 60000 from hT.height),rin (show (-1:Int) ≤ t.Code ∧ t.Code ≤ 4095 from hT.code)]
  rfl
theorem Rk {s:Zh} {t:Zf} (hs:(Z3 s t).2=0) (he:s.At=t.At) (hx:(ZG s (Z3 s t).1).2=0):sqr (ZG s (Z3 s t).1).1.At t.At ≤ (ZG s (Z3 s t).1).1.Error * (ZG s (Z3 s t).1).1.Error:=by
  obtain ⟨_,hS,hT,hw,hp⟩:=Kq hs
  obtain ⟨_,h1,h2,vx,vy,e1,e2,e3,e4,e5,e6,_⟩:=W8 hx
  have hr:(Z3 s t).1.Range=0:=by
    rw [hp]
    simp only
    rw [(Un hS.at_ hT.at_).1,he]
    have z:(t.At.X - t.At.X) * (t.At.X - t.At.X) + (t.At.Y - t.At.Y) * (t.At.Y - t.At.Y)=0:=by rw [Int.sub_self,Int.sub_self];rfl
    rw [z];rfl
  rw [hr,Int.zero_mul] at e1 e2
  have v0:Xq 0=0:=rfl
  rw [v0] at e1 e2
  rw [DK e4 hT.at_,e3,he,e1,e2]
  simp only [Int.add_zero,Int.sub_self]
  exact J6 _
theorem O1 {s:Zh} {p:Zl} (hx:(ZG s p).2=0):0 ≤ (ZG s p).1.Error ∧ (ZG s p).1.Error ≤ 1000000:=by
  obtain ⟨hS,h1,_,_,_,_,_,_,_,e5,e6,_⟩:=W8 hx
  have a:=hS.aerr
  have b:=hS.rerr
  have m:=Int.mul_nonneg h1.1 (show (0:Int) ≤ s.AzimuthError by omega)
  exact ⟨by rw [e5];omega,e6⟩
end Go.Sky
end
section
namespace Go.Sky
open Go Go.Eng
theorem Rl {s:Zh} {t:Zf} (h1:Yc s=0) (h2:Zy t=0) (h3:ZQ s.At t.At s.Reach=true):(Z3 s t).2=0:=by
  unfold Z3
  simp only
  rw [h1,h2,h3]
  simp only [bne_self_eq_false,cond_false,Bool.not_true]
  cases (P.eqb s.At t.At) <;> rfl
theorem B7 {p:P} (h:PIn p):Yf p=0:=by
  unfold PIn at h
  unfold Yf
  rw [decide_eq_false (show ¬ p.X < -1000000 by omega),decide_eq_false (show ¬ p.X > 1000000 by omega),decide_eq_false (show ¬ p.Y < -1000000 by omega),decide_eq_false (show ¬ p.Y > 1000000 by omega)];rfl
theorem MH {f:Zn} (h:QY f) {t:Int} (ht:0 ≤ t ∧ t ≤ 200):Zy (QD f t)=0:=by
  have p:=VY h ht
  have hh:=h.h;have hc:=h.c
  unfold Zy QD
  simp only
  rw [p.1,rin (n:=t) (by omega),rin (n:=f.height) (by omega),rin (n:=f.code) (by omega),rin (n:=0) (by decide),B7 (by unfold PIn;simp only;omega)]
  rfl
theorem MI {p q:P} (hp:PIn p) (hq:PIn q) {d X Y:Int} (hd:0 ≤ d ∧ d ≤ 1000000) (hx:-X ≤ p.X - q.X ∧ p.X - q.X ≤ X) (hy:-Y ≤ p.Y - q.Y ∧ p.Y - q.Y ≤ Y) (h:X * X + Y * Y ≤ d * d):ZQ p q d=true:=by
  have a:=Uc hx
  have b:=Uc hy
  have hdd:0 ≤ d * d ∧ d * d ≤ 1000000000000:=by
    have:=Uc (x:=d) (n:=1000000) (by omega);omega
  unfold ZQ
  simp only
  rw [decide_eq_true (show d ≥ 0 by omega),decide_eq_true (show d ≤ 8000000 by omega),Bool.and_true,cond_true,(Un hp hq).1,Zm (by omega)]
  exact decide_eq_true (by omega)
def J7:Zh:=⟨1,⟨-20000,0⟩,400000,50,2⟩
theorem Rm {s:Zh} {p:Zl} (h1:Yc s=0) (h2:ZL p=0) (h3:p.Radar=s.ID) (hr:0 ≤ p.Range ∧ p.Range ≤ 400000) (ha:0 ≤ p.Azimuth ∧ p.Azimuth ≤ 4095) (hx:-100000 ≤ s.At.X ∧ s.At.X ≤ 100000) (hy:-100000 ≤ s.At.Y ∧ s.At.Y ≤ 100000):(ZG s p).2=0:=by
  have hs:=H7 h1
  have hz:(p.Azimuth.toNat:Int)=p.Azimuth:=Int.toNat_of_nonneg ha.1
  have hv:=TM (g:=p.Azimuth.toNat) (p:=p.Range) (by omega)
  rw [hz] at hv
  have a:=VX (A:=16384) (B1 p.Azimuth.toNat) hr
  have b:=VX (A:=16384) (B2 p.Azimuth.toNat) hr
  rw [Int.mul_comm _ p.Range] at a b
  have c:=Uo (p.Range * sn p.Azimuth.toNat)
  have d:=Uo (p.Range * cs p.Azimuth.toNat)
  have e:=TK hs (far:=p.Range) (by omega) h1
  have re:=hs.rerr;have ae:=hs.aerr
  have m:p.Range * s.AzimuthError ≤ 400000 * 100:=Int.mul_le_mul hr.2 ae.2 (by omega) (by decide)
  unfold ZG
  simp only
  rw [h1,h2,h3,hv]
  simp only [bne_self_eq_false,cond_false]
  have hadd:Qp s.At ⟨Xq (p.Range * sn p.Azimuth.toNat),Xq (p.Range * cs p.Azimuth.toNat)⟩=⟨s.At.X + Xq (p.Range * sn p.Azimuth.toNat),s.At.Y + Xq (p.Range * cs p.Azimuth.toNat)⟩:=by
    unfold Qp
    simp only
    rw [Zm (by omega),Zm (by omega)]
  rw [hadd,B7 (by unfold PIn;simp only;omega),e.1,decide_eq_false (by omega)]
  rfl
theorem MJ {s:Zh} {t:Zf} (hs:(Z3 s t).2=0) (hx:(ZG s (Z3 s t).1).2=0):sqr (ZG s (Z3 s t).1).1.At t.At ≤ (ZG s (Z3 s t).1).1.Error * (ZG s (Z3 s t).1).1.Error:=by
  by_cases he:s.At=t.At
  · exact Rk hs he hx
  · have hc:=Kq hs
    have ae:=hc.2.1.aerr
    have re:=hc.2.1.rerr
    have az:=VE hs
    exact MF (u:=0) hs he (by omega) (by omega) (by omega) hx
end Go.Sky
end
section
namespace Go.Sky
open Go Go.Eng Go.Proofs
def JF (x:Zh) (x_2:Zh):Bool :=
  x.ID == x_2.ID
set_option maxRecDepth 100000 in
theorem GR (x:Zh) (a_x_2:Addr) (x_2:Zh) (w:World) (h_x_2:Rd w 6 (some a_x_2) [Zh.c x_2]):Calls Tryz.prog 139 #[Zh.v x,.pointer (some a_x_2)] w (Ret w (.bool (JF x x_2))):=by
  exact Zk (vs:=[Zh.v x,.pointer (some a_x_2)]) (w:=w) Tryz.func139 rfl Tryz.ntmps139 rfl (TC.sr (TL.nw 2 (fun b1=>.p0 b1) (fun b1=>Bk b1 (Zh.c x) 85) (fun b1=>{}) (fun b1=>TL.r 2 [] [(3,.b false)] {} (TL.nr (TL.r 3 [0] [(5,.i x.ID),(6,.pointer (some a_x_2))] {} (TL.v (sV (Instr.loadAt 3 (.pointer (some a_x_2)))) 7 (.i x_2.ID) (fun w hM=>Zs (off:=0) (.i x_2.ID) (h_x_2.sat hM) (X9 _) Kr Kr) {} (TL.r 6 [] [(3,.b (x.ID == x_2.ID))] {} (TL.next rfl (TC.ret (TE.ret [] (.b (x.ID == x_2.ID)) {} (by unfold JF;refine eS (fun z=>(.b z:Value)) ?_;exact rfl)))))))))))
def Jd (c0:Zh):List Zh → Nat → ((Unit) ⊕ (Int))
  | [],_=>.inl ()
  | x :: xs,k=>let r1:=JF x c0
    cond r1 (
      .inr (k:Int)) (
      Jd c0 xs (k + 1))
def Jk (s:List Zh) (c0:Zh):Int :=
  Sum.elim (fun _ =>
    (-1)) (fun r=>r) (Jd c0 s 0)
set_option maxRecDepth 100000 in
theorem GT (A_s:Option Addr) (c_s:Nat) (s:List Zh) (a_c0:Addr) (c0:Zh) (w:World) (h_s:Rd w 6 A_s (s.map Zh.c)) (_hc_s:s.length ≤ c_s) (h_c0:Rd w 6 (some a_c0) [Zh.c c0]):Calls Tryz.prog 170 #[.slice A_s s.length c_s,.func (.func 139) #[] #[.pointer (some a_c0)]] w (Ret w (.int .i64 (Jk s c0))):=by
  have s_s:=h_s.short;rw [List.length_map] at s_s
  refine Zk (vs:=[.slice A_s s.length c_s,.func (.func 139) #[] #[.pointer (some a_c0)]]) (w:=w) Tryz.func170 rfl Tryz.ntmps170 rfl (TC.sr (TL.r 1 [] [(4,.i 0)] {} (TL.ns (TC.sr (TL.r 3 [] [(7,.i (s.length:Int)),(8,.i 0)] {} (TL.next rfl ?_))))))
  obtain ⟨R1,hR⟩:∃ R,R=Jd c0 s 0:=⟨_,rfl⟩
  refine TC.cut (S:=Unit) (fun (_:Unit)=>[]) (fun (_:Unit)=>[]) (fun (_:Unit)=>R1=.inl ()) ?_ ?_
  · refine TC.block (TC.lw (X:=Nat) (fun k=>[(0,.slice A_s s.length c_s),(1,.func (.func 139) #[] #[.pointer (some a_c0)]),(7,.i (s.length:Int)),(8,.i (k:Int))]) (fun k=>[]) (fun k=>s.length - k) (fun k=>k ≤ s.length ∧ R1=Jd c0 (s.drop k) k) ?_ 0 ⟨Nat.zero_le _,hR⟩ Kr (sb 0))
    rintro k ⟨hk,hI⟩
    refine TC.sr (TL.r 1 [] [(9,.b (decide ((k:Int) < (s.length:Int))))] {} (TL.ns (TC.cond (decide ((k:Int) < (s.length:Int))) rfl Kr (fun h1=>?_) (fun h1=>?_))))
    · have hlt:=ltN h1
      obtain ⟨x,hx⟩:=elN hlt
      have hd:=drop_at hx
      refine TC.sn (TC.seq (TC.block (TC.sr (TL.r 2 [] [(5,.i (k:Int))] {} (TL.nr (TL.r 3 [] [(11,.func (.func 139) #[] #[.pointer (some a_c0)]),(12,.slice A_s s.length c_s),(13,.i (k:Int))] {} (TL.v (sV (Instr.indexAt 55 (.slice A_s s.length c_s) (.i (k:Int)))) 14 (.pointer (some (Ix A_s (k * 6)))) (fun w hM=>Zr (h_s.sat hM) (by simp) Kr sd sd) {} (TL.v (sV (Instr.loadAt 85 (.pointer (some (Ix A_s (k * 6)))))) 15 (Zh.v x) (fun w hM=>Z6 (n:=6) (off:=0) (i:=k) (Zh.v x) (h_s.sat hM) (ZA hx) Kr Kr Kr) {} (TL.c 16 (JF x c0) (fun r1=>.b r1) (fun w hM=>GR x a_c0 c0 w (h_c0.sat hM)) {} (fun r1 hr1=>TL.next rfl (TC.cond r1 rfl Kr (fun h2=>?_) (fun h2=>?_))))))))))))
      · refine TC.sr (TL.r 2 [] [(4,.i (k:Int))] {} (TL.next rfl (TC.ret (TE.rb (TE.rt (TE.rt (TE.rb (TE.rt (TE.rt ?_)))))))))
        exact TE.ret [] (.i (k:Int)) {} (by unfold Jk;refine eS (fun z=>(.i z:Value)) ?_;subst hr1;exact X7 (hR.symm.trans (hI.trans (by rw [hd];exact Zi h2 (rfl)))) rfl)
      · exact TC.skip (TE.nb (TE.next (TC.region (TL.r 2 [] [(8,.i (w64 ((k:Int) + 1)))] {} (TL.done rfl (TE.rw 8 (.i (w64 ((k:Int) + 1))) (.i ((k + 1:Nat):Int)) Kr (ZD k (by omega)) (TE.again (x:=k) (k + 1) ⟨by omega,hI.trans (by subst hr1;rw [hd];exact Zb h2 (rfl))⟩ (mN hlt) Kr (sb 0))))))))
    · have hd:=XL h1
      refine TC.exit (TE.et (TE.et (TE.exit_same ?_)))
      exact TE.cut () (hI.trans (by rw [hd];exact rfl)) Kr (sb 0)
  · intro _ hJ
    exact TE.nr (TL.r 1 [] [(4,.i (-1))] {} (TL.next rfl (TC.ret (TE.ret [] (.i (-1)) {} (by unfold Jk;refine eS (fun z=>(.i z:Value)) ?_;exact XI (hR.symm.trans hJ) (rfl))))))
def Je (s:List Zh) (c0:Zh):Bool :=
  let r1:=Jk s c0
  decide (r1 ≥ 0)
set_option maxRecDepth 100000 in
theorem Ux (A_s:Option Addr) (c_s:Nat) (s:List Zh) (a_c0:Addr) (c0:Zh) (w:World) (h_s:Rd w 6 A_s (s.map Zh.c)) (hc_s:s.length ≤ c_s) (h_c0:Rd w 6 (some a_c0) [Zh.c c0]):Calls Tryz.prog 138 #[.slice A_s s.length c_s,.func (.func 139) #[] #[.pointer (some a_c0)]] w (Ret w (.bool (Je s c0))):=by
  have s_s:=h_s.short;rw [List.length_map] at s_s
  exact Zk (vs:=[.slice A_s s.length c_s,.func (.func 139) #[] #[.pointer (some a_c0)]]) (w:=w) Tryz.func138 rfl Tryz.ntmps138 rfl (TC.sr (TL.r 1 [] [(4,.b false)] {} (TL.nr (TL.r 2 [] [(5,.slice A_s s.length c_s),(6,.func (.func 139) #[] #[.pointer (some a_c0)])] {} (TL.c 7 (Jk s c0) (fun r1=>.i r1) (fun w hM=>GT A_s c_s s a_c0 c0 w (h_s.sat hM) hc_s (h_c0.sat hM)) {} (fun r1 hr1=>TL.r 5 [] [(4,.b (decide (r1 ≥ 0)))] {} (TL.next rfl (TC.ret (TE.ret [] (.b (decide (r1 ≥ 0))) {} (by unfold Je;refine eS (fun z=>(.b z:Value)) ?_;subst hr1;exact rfl))))))))))
def Jz (l:List Zh):List Zh → Nat → ((Unit) ⊕ (Int))
  | [],_=>.inl ()
  | x :: xs,k=>let r1:=Yc x
    cond (r1 != 0) (
      .inr r1) (
      let r2:=Je (l.take k) x
      cond r2 (
        .inr 7) (
        Jz l xs (k + 1)))
def XP (l:List Zh):Int :=
  cond (decide ((l.length:Int) > 4)) (
    2) (
    Sum.elim (fun _ =>
      0) (fun r=>r) (Jz l l 0))
set_option maxHeartbeats 4000000 in
set_option maxRecDepth 100000 in
theorem H9 (A_l:Option Addr) (c_l:Nat) (l:List Zh) (w:World) (h_l:Rd w 6 A_l (l.map Zh.c)) (hc_l:l.length ≤ c_l):Calls Tryz.prog 79 #[.slice A_l l.length c_l] w (Ret w (.int .i64 (XP l))):=by
  have s_l:=h_l.short;rw [List.length_map] at s_l
  refine Zk (vs:=[.slice A_l l.length c_l]) (w:=w) Tryz.func79 rfl Tryz.ntmps79 rfl (TC.sr (TL.r 1 [] [(2,.i 0)] {} (TL.ns (TC.sr (TL.r 3 [] [(8,.b (decide ((l.length:Int) > 4)))] {} (TL.next rfl (TC.cond (decide ((l.length:Int) > 4)) rfl Kr (fun h1=>?_) (fun h1=>?_))))))))
  · exact TC.sr (TL.r 1 [] [(2,.i 2)] {} (TL.next rfl (TC.ret (TE.rt (TE.ret [] (.i 2) {} (by unfold XP;refine eS (fun z=>(.i z:Value)) ?_;exact Zi h1 (rfl)))))))
  · have q1_0:=(Zo h1)
    refine TC.sn (TC.seq (TC.sr (TL.r 3 [] [(9,.slice A_l l.length c_l),(10,.i (l.length:Int)),(11,.i 0)] {} (TL.next rfl ?_))))
    obtain ⟨R1,hR⟩:∃ R,R=Jz l l 0:=⟨_,rfl⟩
    refine TC.cut (S:=Unit) (fun (_:Unit)=>[]) (fun (_:Unit)=>[]) (fun (_:Unit)=>R1=.inl ()) ?_ ?_
    · refine TC.block (TC.lw (X:=Nat) (fun k=>[(0,.slice A_l l.length c_l),(9,.slice A_l l.length c_l),(10,.i (l.length:Int)),(11,.i (k:Int))]) (fun k=>[]) (fun k=>l.length - k) (fun k=>k ≤ l.length ∧ R1=Jz l (l.drop k) k) ?_ 0 ⟨Nat.zero_le _,hR⟩ Kr (sb 0))
      rintro k ⟨hk,hI⟩
      refine TC.sr (TL.r 1 [] [(12,.b (decide ((k:Int) < (l.length:Int))))] {} (TL.ns (TC.cond (decide ((k:Int) < (l.length:Int))) rfl Kr (fun h2=>?_) (fun h2=>?_))))
      · have hlt:=ltN h2
        obtain ⟨x,hx⟩:=elN hlt
        have hd:=drop_at hx
        refine TC.sn (TC.seq (TC.block (TC.sr (TL.r 1 [] [(13,.i (k:Int))] {} (TL.v (sV (Instr.indexAt 55 (.slice A_l l.length c_l) (.i (k:Int)))) 14 (.pointer (some (Ix A_l (k * 6)))) (fun w hM=>Zr (h_l.sat hM) (by simp) Kr sd sd) {} (TL.v (sV (Instr.loadAt 85 (.pointer (some (Ix A_l (k * 6)))))) 15 (Zh.v x) (fun w hM=>Z6 (n:=6) (off:=0) (i:=k) (Zh.v x) (h_l.sat hM) (ZA hx) Kr Kr Kr) {} (TL.nw 4 (fun b1=>.p0 b1) (fun b1=>Bk b1 (Zh.c Zh.zero) 85) (fun b1=>{}) (fun b1=>TL.r 5 [] [(3,.i (k:Int))] {} (TL.s 0 (Bk b1 (Zh.c x) 85) (fun _=>{}) (TL.ns (TC.sr (TL.r 1 [0] [(16,Zh.v x)] {} (TL.c 17 (Yc x) (fun r1=>.i r1) (fun w _=>Kp x w) {} (fun r1 hr1=>TL.r 3 [] [(5,.i r1)] {} (TL.nr (TL.r 2 [] [(19,.b (r1 != 0))] {} (TL.next rfl (TC.cond (r1 != 0) rfl Kr (fun h3=>?_) (fun h3=>?_)))))))))))))))))))
        · refine TC.sr (TL.r 2 [] [(2,.i r1)] {} (TL.next rfl (TC.ret (TE.rt (TE.rb (TE.rt (TE.rt (TE.rb (TE.rt (TE.rt ?_))))))))))
          exact TE.ret [] (.i r1) {} (by unfold XP;refine eS (fun z=>(.i z:Value)) ?_;subst hr1;exact Zb h1 (X7 (hR.symm.trans (hI.trans (by rw [hd];exact Zi h3 (rfl)))) rfl))
        · have q3_0:=(QG h3)
          refine TC.snr (TL.r 2 [] [(21,.slice A_l l.length c_l),(22,.i (k:Int))] {} ?_)
          obtain ⟨A1,hA1⟩:∃ A0_,A0_=(if c_l=0 then A_l else A_l.map (fun a=>a.add (0 * 6))):=⟨_,rfl⟩
          have hR1:Rd w 6 A1 ((l.take k).map Zh.c):=by rw [hA1];exact h_l.cutMap 0 _ hc_l
          have hC1:(l.take k).length ≤ (c_l - 0):=by simp only [List.length_take];omega
          have s_hR1:=hR1.short;rw [List.length_map] at s_hR1
          refine TL.v (sV (Instr.sliceAt 55 (.slice A_l l.length c_l) none (some (.i (k:Int))) none)) 23 (.slice A1 ((l.take k).length) (c_l - 0)) (fun w hM=>(JI 0 k Kr (.inl ⟨rfl,rfl⟩) (.inr ⟨_,_,rfl,sd,rfl⟩) sd sd).trans (by rw [hA1];congr 3;first | (simp only [List.length_take] <;> omega) | (simp only [List.length_take] at * <;> omega))) {} (TL.r 4 [] [(24,.func (.func 139) #[] #[.p0 b1])] {} (TL.c 25 (Je (l.take k) x) (fun r2=>.b r2) (fun w hM=>Ux A1 (c_l - 0) (l.take k) ⟨b1,0,none⟩ x w (hR1.sat hM) hC1 (Rd.lit hM 0 _ rfl Kr Kr Kr)) {} (fun r2 hr2=>TL.next rfl (TC.cond r2 rfl Kr (fun h4=>?_) (fun h4=>?_)))))
          · refine TC.sr (TL.r 1 [] [(2,.i 7)] {} (TL.next rfl (TC.ret (TE.rb (TE.rt (TE.rt (TE.rb (TE.rt (TE.rt ?_)))))))))
            exact TE.ret [] (.i 7) {} (by unfold XP;refine eS (fun z=>(.i z:Value)) ?_;subst hr1 hr2;exact Zb h1 (X7 (hR.symm.trans (hI.trans (by rw [hd];exact Zb h3 (Zi h4 (rfl))))) rfl))
          · exact TC.skip (TE.nb (TE.next (TC.region (TL.r 2 [] [(11,.i (w64 ((k:Int) + 1)))] {} (TL.done rfl (TE.rw 11 (.i (w64 ((k:Int) + 1))) (.i ((k + 1:Nat):Int)) Kr (ZD k (by omega)) (TE.again (x:=k) (k + 1) ⟨by omega,hI.trans (by subst hr1 hr2;rw [hd];exact Zb h3 (Zb h4 (rfl)))⟩ (mN hlt) Kr (sb 0))))))))
      · have hd:=XL h2
        refine TC.exit (TE.et (TE.et (TE.exit_same ?_)))
        exact TE.cut () (hI.trans (by rw [hd];exact rfl)) Kr (sb 0)
    · intro _ hJ
      exact TE.nr (TL.r 1 [] [(2,.i 0)] {} (TL.next rfl (TC.ret (TE.ret [] (.i 0) {} (by unfold XP;refine eS (fun z=>(.i z:Value)) ?_;exact Zb h1 (XI (hR.symm.trans hJ) (rfl)))))))
def X5:List Zl → Nat → ((Unit) ⊕ (Int))
  | [],_=>.inl ()
  | x :: xs,k=>let r1:=ZL x
    cond (r1 != 0) (
      .inr r1) (
      X5 xs (k + 1))
def YM (l:List Zl):Int :=
  cond (decide ((l.length:Int) > 1024)) (
    2) (
    Sum.elim (fun _ =>
      0) (fun r=>r) (X5 l 0))
set_option maxRecDepth 100000 in
theorem Uy (A_l:Option Addr) (c_l:Nat) (l:List Zl) (w:World) (h_l:Rd w 6 A_l (l.map Zl.c)) (_hc_l:l.length ≤ c_l):Calls Tryz.prog 80 #[.slice A_l l.length c_l] w (Ret w (.int .i64 (YM l))):=by
  have s_l:=h_l.short;rw [List.length_map] at s_l
  refine Zk (vs:=[.slice A_l l.length c_l]) (w:=w) Tryz.func80 rfl Tryz.ntmps80 rfl (TC.sr (TL.r 1 [] [(2,.i 0)] {} (TL.ns (TC.sr (TL.r 3 [] [(8,.b (decide ((l.length:Int) > 1024)))] {} (TL.next rfl (TC.cond (decide ((l.length:Int) > 1024)) rfl Kr (fun h1=>?_) (fun h1=>?_))))))))
  · exact TC.sr (TL.r 1 [] [(2,.i 2)] {} (TL.next rfl (TC.ret (TE.rt (TE.ret [] (.i 2) {} (by unfold YM;refine eS (fun z=>(.i z:Value)) ?_;exact Zi h1 (rfl)))))))
  · have q1_0:=(Zo h1)
    refine TC.sn (TC.seq (TC.sr (TL.r 3 [] [(9,.slice A_l l.length c_l),(10,.i (l.length:Int)),(11,.i 0)] {} (TL.next rfl ?_))))
    obtain ⟨R1,hR⟩:∃ R,R=X5 l 0:=⟨_,rfl⟩
    refine TC.cut (S:=Unit) (fun (_:Unit)=>[]) (fun (_:Unit)=>[]) (fun (_:Unit)=>R1=.inl ()) ?_ ?_
    · refine TC.block (TC.lw (X:=Nat) (fun k=>[(9,.slice A_l l.length c_l),(10,.i (l.length:Int)),(11,.i (k:Int))]) (fun k=>[]) (fun k=>l.length - k) (fun k=>k ≤ l.length ∧ R1=X5 (l.drop k) k) ?_ 0 ⟨Nat.zero_le _,hR⟩ Kr (sb 0))
      rintro k ⟨hk,hI⟩
      refine TC.sr (TL.r 1 [] [(12,.b (decide ((k:Int) < (l.length:Int))))] {} (TL.ns (TC.cond (decide ((k:Int) < (l.length:Int))) rfl Kr (fun h2=>?_) (fun h2=>?_))))
      · have hlt:=ltN h2
        obtain ⟨x,hx⟩:=elN hlt
        have hd:=drop_at hx
        refine TC.sn (TC.seq (TC.block (TC.sr (TL.v (sV (Instr.indexAt 83 (.slice A_l l.length c_l) (.i (k:Int)))) 13 (.pointer (some (Ix A_l (k * 6)))) (fun w hM=>Zr (h_l.sat hM) (by simp) Kr sd sd) {} (TL.v (sV (Instr.loadAt 89 (.pointer (some (Ix A_l (k * 6)))))) 14 (Zl.v x) (fun w hM=>Z6 (n:=6) (off:=0) (i:=k) (Zl.v x) (h_l.sat hM) (ZA hx) Kr Kr Kr) {} (TL.nw 4 (fun b1=>.p0 b1) (fun b1=>Bk b1 (Zl.c Zl.zero) 89) (fun b1=>{}) (fun b1=>TL.s 0 (Bk b1 (Zl.c x) 89) (fun _=>{}) (TL.nr (TL.r 1 [0] [(15,Zl.v x)] {} (TL.c 16 (ZL x) (fun r1=>.i r1) (fun w _=>JE x w) {} (fun r1 hr1=>TL.r 3 [] [(5,.i r1)] {} (TL.nr (TL.r 2 [] [(18,.b (r1 != 0))] {} (TL.next rfl (TC.cond (r1 != 0) rfl Kr (fun h3=>?_) (fun h3=>?_))))))))))))))))
        · refine TC.sr (TL.r 2 [] [(2,.i r1)] {} (TL.next rfl (TC.ret (TE.rb (TE.rt (TE.rt (TE.rb (TE.rt (TE.rt ?_)))))))))
          exact TE.ret [] (.i r1) {} (by unfold YM;refine eS (fun z=>(.i z:Value)) ?_;subst hr1;exact Zb h1 (X7 (hR.symm.trans (hI.trans (by rw [hd];exact Zi h3 (rfl)))) rfl))
        · have q3_0:=(QG h3)
          exact TC.skip (TE.nb (TE.next (TC.region (TL.r 2 [] [(11,.i (w64 ((k:Int) + 1)))] {} (TL.done rfl (TE.rw 11 (.i (w64 ((k:Int) + 1))) (.i ((k + 1:Nat):Int)) Kr (ZD k (by omega)) (TE.again (x:=k) (k + 1) ⟨by omega,hI.trans (by subst hr1;rw [hd];exact Zb h3 (rfl))⟩ (mN hlt) Kr (sb 0))))))))
      · have hd:=XL h2
        refine TC.exit (TE.et (TE.et (TE.exit_same ?_)))
        exact TE.cut () (hI.trans (by rw [hd];exact rfl)) Kr (sb 0)
    · intro _ hJ
      exact TE.nr (TL.r 1 [] [(2,.i 0)] {} (TL.next rfl (TC.ret (TE.ret [] (.i 0) {} (by unfold YM;refine eS (fun z=>(.i z:Value)) ?_;exact Zb h1 (XI (hR.symm.trans hJ) (rfl)))))))
def Y0 (x:Zl):List Zh → Nat → (List Zf) → (List Zf)
  | [],_,out_3=>out_3
  | x_2 :: xs,k_2,out_3=>cond (x_2.ID != x.Radar) (
      Y0 x xs (k_2 + 1) out_3) (
      let r3:=ZG x_2 x
      cond (r3.2 == 0) (
        Y0 x xs (k_2 + 1) (out_3 ++ ([r3.1]))) (
        Y0 x xs (k_2 + 1) out_3))
def Qb (l:List Zh):List Zl → Nat → (List Zf) → (List Zf)
  | [],_,out=>out
  | x :: xs,k,out=>Y3 (Y0 x l 0 out) (fun out_4 =>
      Qb l xs (k + 1) out_4)
def Xg (l:List Zh) (plots:List Zl):List Zf × Int :=
  let r1:=XP l
  cond (r1 != 0) (
    ([],r1)) (
    let r2:=YM plots
    cond (r2 != 0) (
      ([],r2)) (
      Y3 (Qb l plots 0 ([]:List Zf)) (fun out_2 =>
        (out_2,0))))
theorem QV {l:List Zh} {r:Int} (hr:XP l=r) (h:(r != 0)=false):l.length ≤ 4:=by
  have h:r=0:=by simpa using h
  rw [h] at hr
  unfold XP at hr
  cases h1:decide ((l.length:Int) > 4) with
  | true=>rw [h1] at hr;cases hr
  | false=>have:=of_decide_eq_false h1;omega
theorem Qw {l:List Zl} {r:Int} (hr:YM l=r) (h:(r != 0)=false):l.length ≤ 1024:=by
  have h:r=0:=by simpa using h
  rw [h] at hr
  unfold YM at hr
  cases h1:decide ((l.length:Int) > 1024) with
  | true=>rw [h1] at hr;cases hr
  | false=>have:=of_decide_eq_false h1;omega
set_option maxHeartbeats 4000000 in
set_option maxRecDepth 100000 in
theorem HA (A_l:Option Addr) (c_l:Nat) (l:List Zh) (A_plots:Option Addr) (c_plots:Nat) (plots:List Zl) (w:World) (h_l:Rd w 6 A_l (l.map Zh.c)) (hc_l:l.length ≤ c_l) (h_plots:Rd w 6 A_plots (plots.map Zl.c)) (hc_plots:plots.length ≤ c_plots) (hT:Ua w):Calls Tryz.prog 35 #[.slice A_l l.length c_l,.slice A_plots plots.length c_plots] w (QK (Γ:=(Option Addr × Nat)) (cx w) (fun g=>.tuple #[.slice g.1 ((Xg l plots).1.length) g.2,.int .i64 ((Xg l plots).2)]) (fun g=>[.inr (Own g.1 g.2 42 6 (((Xg l plots).1).map Zf.c))])):=by
  have s_l:=h_l.short;rw [List.length_map] at s_l
  have s_plots:=h_plots.short;rw [List.length_map] at s_plots
  refine Zk (vs:=[.slice A_l l.length c_l,.slice A_plots plots.length c_plots]) (w:=w) Tryz.func35 rfl Tryz.ntmps35 rfl (TC.sr (TL.r 2 [] [(4,.slice none 0 0),(5,.i 0)] {} (TL.ns (TC.sr (TL.r 1 [] [(15,.slice A_l l.length c_l)] {} (TL.c 16 (XP l) (fun r1=>.i r1) (fun w hM=>H9 A_l c_l l w (h_l.sat hM) hc_l) {} (fun r1 hr1=>TL.r 3 [] [(6,.i r1)] {} (TL.nr (TL.r 2 [] [(18,.b (r1 != 0))] {} (TL.next rfl (TC.cond (r1 != 0) rfl Kr (fun h1=>?_) (fun h1=>?_))))))))))))
  · refine TC.sr (TL.r 3 [] [(4,.slice none 0 0),(5,.i r1)] {} (TL.next rfl (TC.ret (TE.rt ?_))))
    have e:Xg l plots=([],r1):=by subst hr1;unfold Xg;exact Zi h1 (rfl)
    refine TE.conv [Ow none 0 42 6 (([]:List Zf).map Zf.c)] (fun _ hM=>hM.emptyrow none 42 6) ?_
    rw [e]
    exact TE.retM (.inl rfl) (none,0) [] (.tuple #[.slice none 0 0,.i r1]) {} rfl (fun _ hM=>hM.sub (sb 1))
  · have q1_0:=(QG h1)
    refine TC.sn (TC.seq (TC.sr (TL.r 1 [] [(20,.slice A_plots plots.length c_plots)] {} (TL.c 21 (YM plots) (fun r2=>.i r2) (fun w hM=>Uy A_plots c_plots plots w (h_plots.sat hM) hc_plots) {} (fun r2 hr2=>TL.r 3 [] [(7,.i r2)] {} (TL.nr (TL.r 2 [] [(23,.b (r2 != 0))] {} (TL.next rfl (TC.cond (r2 != 0) rfl Kr (fun h2=>?_) (fun h2=>?_))))))))))
    · refine TC.sr (TL.r 3 [] [(4,.slice none 0 0),(5,.i r2)] {} (TL.next rfl (TC.ret (TE.rt ?_))))
      have e:Xg l plots=([],r2):=by subst hr1 hr2;unfold Xg;exact Zb h1 (Zi h2 (rfl))
      refine TE.conv [Ow none 0 42 6 (([]:List Zf).map Zf.c)] (fun _ hM=>hM.emptyrow none 42 6) ?_
      rw [e]
      exact TE.retM (.inl rfl) (none,0) [] (.tuple #[.slice none 0 0,.i r2]) {} rfl (fun _ hM=>hM.sub (sb 1))
    · have q2_0:=(QG h2)
      refine TC.snr (TL.r 1 [] [(8,.slice none 0 0)] {} (TL.ns (TC.sr (TL.r 3 [] [(25,.slice A_plots plots.length c_plots),(26,.i (plots.length:Int)),(27,.i 0)] {} (TL.next rfl (TC.conv [Ow none 0 42 6 (([]:List Zf).map Zf.c)] (fun _ hM=>hM.emptyrow none 42 6) ?_))))))
      obtain ⟨R4,hR⟩:∃ R,R=Qb l plots 0 ([]:List Zf):=⟨_,rfl⟩
      refine TC.cut (S:=(List Zf) × (Option Addr) × Nat) (fun (out_2,A_out_2,c_out_2)=>[(8,.slice A_out_2 out_2.length c_out_2)]) (fun (out_2,A_out_2,c_out_2)=>[Ow A_out_2 c_out_2 42 6 (out_2.map Zf.c)]) (fun (out_2,A_out_2,c_out_2)=>R4=out_2 ∧ out_2.length ≤ 4 * plots.length) ?_ ?_
      · refine TC.block (TC.lw (X:=Nat × (List Zf) × (Option Addr) × Nat) (fun (k,out,A_out,c_out)=>[(0,.slice A_l l.length c_l),(8,.slice A_out out.length c_out),(25,.slice A_plots plots.length c_plots),(26,.i (plots.length:Int)),(27,.i (k:Int))]) (fun (k,out,A_out,c_out)=>[Ow A_out c_out 42 6 (out.map Zf.c)]) (fun (k,out,A_out,c_out)=>plots.length - k) (fun (k,out,A_out,c_out)=>k ≤ plots.length ∧ R4=Qb l (plots.drop k) k out ∧ out.length ≤ 4 * k) ?_ (0,([]:List Zf),none,0) ⟨Nat.zero_le _,hR,sz⟩ Kr (sb 1))
        rintro ⟨k,out,A_out,c_out⟩ ⟨hk,hI,hl_out⟩
        refine TC.sr (TL.r 1 [] [(28,.b (decide ((k:Int) < (plots.length:Int))))] {} (TL.ns (TC.cond (decide ((k:Int) < (plots.length:Int))) rfl Kr (fun h3=>?_) (fun h3=>?_))))
        · have hlt:=ltN h3
          obtain ⟨x,hx⟩:=elN hlt
          have hd:=drop_at hx
          refine TC.sn (TC.seq (TC.block (TC.sr (TL.v (sV (Instr.indexAt 83 (.slice A_plots plots.length c_plots) (.i (k:Int)))) 29 (.pointer (some (Ix A_plots (k * 6)))) (fun w hM=>Zr (h_plots.sat hM) (by simp) Kr (by (try have kl_:=QV hr1 h1);(try have kp_:=Qw hr2 h2);exact sd) (by (try have kl_:=QV hr1 h1);(try have kp_:=Qw hr2 h2);exact sd)) {} (TL.v (sV (Instr.loadAt 89 (.pointer (some (Ix A_plots (k * 6)))))) 30 (Zl.v x) (fun w hM=>Z6 (n:=6) (off:=0) (i:=k) (Zl.v x) (h_plots.sat hM) (ZA hx) Kr Kr Kr) {} (TL.nw 10 (fun b1=>.p0 b1) (fun b1=>Bk b1 (Zl.c Zl.zero) 89) (fun b1=>{}) (fun b1=>TL.s 0 (Bk b1 (Zl.c x) 89) (fun _=>{}) (TL.nr (TL.r 3 [] [(31,.slice A_l l.length c_l),(32,.i (l.length:Int)),(33,.i 0)] {} (TL.next rfl ?_))))))))))
          obtain ⟨R5,hR_2⟩:∃ R,R=Y0 x l 0 out:=⟨_,rfl⟩
          refine TC.cut (S:=(List Zf) × (Option Addr) × Nat) (fun (out_4,A_out_4,c_out_4)=>[(0,.slice A_l l.length c_l),(8,.slice A_out_4 out_4.length c_out_4),(25,.slice A_plots plots.length c_plots),(26,.i (plots.length:Int)),(27,.i (k:Int))]) (fun (out_4,A_out_4,c_out_4)=>[Ow A_out_4 c_out_4 42 6 (out_4.map Zf.c)]) (fun (out_4,A_out_4,c_out_4)=>R5=out_4 ∧ out_4.length ≤ out.length + l.length) ?_ ?_
          · refine TC.block (TC.lw (X:=Nat × (List Zf) × (Option Addr) × Nat) (fun (k_2,out_3,A_out_3,c_out_3)=>[(0,.slice A_l l.length c_l),(8,.slice A_out_3 out_3.length c_out_3),(10,.p0 b1),(25,.slice A_plots plots.length c_plots),(26,.i (plots.length:Int)),(27,.i (k:Int)),(31,.slice A_l l.length c_l),(32,.i (l.length:Int)),(33,.i (k_2:Int))]) (fun (k_2,out_3,A_out_3,c_out_3)=>[Bk b1 (Zl.c x) 89,Ow A_out_3 c_out_3 42 6 (out_3.map Zf.c)]) (fun (k_2,out_3,A_out_3,c_out_3)=>l.length - k_2) (fun (k_2,out_3,A_out_3,c_out_3)=>k_2 ≤ l.length ∧ R5=Y0 x (l.drop k_2) k_2 out_3 ∧ out_3.length ≤ out.length + k_2) ?_ (0,out,A_out,c_out) ⟨Nat.zero_le _,hR_2,sz⟩ Kr (sb 3))
            rintro ⟨k_2,out_3,A_out_3,c_out_3⟩ ⟨hk_2,hI_2,hl_out_3⟩
            refine TC.sr (TL.r 1 [] [(34,.b (decide ((k_2:Int) < (l.length:Int))))] {} (TL.ns (TC.cond (decide ((k_2:Int) < (l.length:Int))) rfl Kr (fun h4=>?_) (fun h4=>?_))))
            · have hlt_2:=ltN h4
              obtain ⟨x_2,hx_2⟩:=elN hlt_2
              have hd_2:=drop_at hx_2
              refine TC.sn (TC.seq (TC.block (TC.sr (TL.v (sV (Instr.indexAt 55 (.slice A_l l.length c_l) (.i (k_2:Int)))) 35 (.pointer (some (Ix A_l (k_2 * 6)))) (fun w hM=>Zr (h_l.sat hM) (by simp) Kr (by (try have kl_:=QV hr1 h1);(try have kp_:=Qw hr2 h2);exact sd) (by (try have kl_:=QV hr1 h1);(try have kp_:=Qw hr2 h2);exact sd)) {} (TL.v (sV (Instr.loadAt 85 (.pointer (some (Ix A_l (k_2 * 6)))))) 36 (Zh.v x_2) (fun w hM=>Z6 (n:=6) (off:=0) (i:=k_2) (Zh.v x_2) (h_l.sat hM) (ZA hx_2) Kr Kr Kr) {} (TL.nw 12 (fun b2=>.p0 b2) (fun b2=>Bk b2 (Zh.c Zh.zero) 85) (fun b2=>{}) (fun b2=>TL.s 0 (Bk b2 (Zh.c x_2) 85) (fun _=>{}) (TL.ns (TC.sr (TL.r 5 [0,1] [(41,.b (x_2.ID != x.Radar))] {} (TL.next rfl (TC.cond (x_2.ID != x.Radar) rfl Kr (fun h5=>?_) (fun h5=>?_)))))))))))))
              · have q5_0:=(MS h5)
                refine TC.exit (TE.et (TE.exit_same ?_))
                exact TE.next (TC.region (TL.r 2 [] [(33,.i (w64 ((k_2:Int) + 1)))] {} (TL.done rfl (TE.rw 33 (.i (w64 ((k_2:Int) + 1))) (.i ((k_2 + 1:Nat):Int)) Kr (ZD k_2 (by (try have kl_:=QV hr1 h1);(try have kp_:=Qw hr2 h2);omega)) (TE.again (x:=(k_2,out_3,A_out_3,c_out_3)) (k_2 + 1,out_3,A_out_3,c_out_3) ⟨by omega,hI_2.trans (by subst hr1 hr2;rw [hd_2];exact Zi h5 (rfl)),(by (try have kl_:=QV hr1 h1);(try have kp_:=Qw hr2 h2);exact sl)⟩ (mN hlt_2) Kr (sb 6))))))
              · have q5_0:=(QG h5)
                refine TC.snr (TL.r 2 [0,1] [(43,Zh.v x_2),(44,Zl.v x)] {} (TL.c 45 (ZG x_2 x) (fun r3=>.tuple #[Zf.v r3.1,.i r3.2]) (fun w hM=>DC x_2 x w (hT.sat hM)) {} (fun r3 hr3=>TL.r 6 [] [(46,Zf.v r3.1),(47,.i r3.2)] {} (TL.nw 13 (fun b3=>.p0 b3) (fun b3=>Bk b3 (Zf.c Zf.zero) 42) (fun b3=>{}) (fun b3=>TL.s 0 (Bk b3 (Zf.c r3.1) 42) (fun _=>{}) (TL.r 9 [] [(14,.i r3.2)] {} (TL.nr (TL.r 2 [] [(49,.b (r3.2 == 0))] {} (TL.next rfl (TC.cond (r3.2 == 0) rfl Kr (fun h6=>?_) (fun h6=>?_)))))))))))
                · have q6_0:=(Yx h6)
                  refine TC.region (TL.r 2 [0] [(50,.slice A_out_3 out_3.length c_out_3),(51,Zf.v r3.1)] {} (TL.nw 52 (fun b4=>.slice (Pa b4) 1 1) (fun b4=>Bk b4 (Zf.c r3.1) 42) (fun b4=>{}) (fun b4=>TL.os (Γ:=AN) (sV (Builtin.append_ #[52,52] 52 #[.slice A_out_3 out_3.length c_out_3,.slice (Pa b4) 1 1])) 53 (fun g=>.slice g.1 (out_3 ++ ([r3.1])).length g.2) 4 (fun g=>Ow g.1 g.2 42 6 ((out_3 ++ ([r3.1])).map Zf.c)) (Qq (bytes:=48) 52 4 ([r3.1]) Kr rfl rfl Zf.one rfl (fun w hM=>(Rd.lit hM 0 _ rfl Kr Kr Kr)) rfl (by (try have kl_:=QV hr1 h1);(try have kp_:=Qw hr2 h2);exact sa)) {} ?_)))
                  rintro ⟨A,c⟩
                  exact TL.r 5 [] [(8,.slice A ((out_3 ++ ([r3.1])).length) c)] {} (TL.done rfl (TE.nb (TE.next (TC.region (TL.r 2 [] [(33,.i (w64 ((k_2:Int) + 1)))] {} (TL.done rfl (TE.rw 33 (.i (w64 ((k_2:Int) + 1))) (.i ((k_2 + 1:Nat):Int)) Kr (ZD k_2 (by (try have kl_:=QV hr1 h1);(try have kp_:=Qw hr2 h2);omega)) (TE.again (x:=(k_2,out_3,A_out_3,c_out_3)) (k_2 + 1,(out_3 ++ ([r3.1])),A,c) ⟨by omega,hI_2.trans (by subst hr1 hr2 hr3;rw [hd_2];exact Zb h5 (Zi h6 (rfl))),(by (try have kl_:=QV hr1 h1);(try have kp_:=Qw hr2 h2);exact sl)⟩ (mN hlt_2) Kr (sb 24)))))))))
                · have q6_0:=(ZN h6)
                  exact TC.skip (TE.nb (TE.next (TC.region (TL.r 2 [] [(33,.i (w64 ((k_2:Int) + 1)))] {} (TL.done rfl (TE.rw 33 (.i (w64 ((k_2:Int) + 1))) (.i ((k_2 + 1:Nat):Int)) Kr (ZD k_2 (by (try have kl_:=QV hr1 h1);(try have kp_:=Qw hr2 h2);omega)) (TE.again (x:=(k_2,out_3,A_out_3,c_out_3)) (k_2 + 1,out_3,A_out_3,c_out_3) ⟨by omega,hI_2.trans (by subst hr1 hr2 hr3;rw [hd_2];exact Zb h5 (Zb h6 (rfl))),(by (try have kl_:=QV hr1 h1);(try have kp_:=Qw hr2 h2);exact sl)⟩ (mN hlt_2) Kr (sb 12))))))))
            · have hd_2:=XL h4
              refine TC.exit (TE.et (TE.et (TE.exit_same ?_)))
              exact TE.cut (out_3,A_out_3,c_out_3) (⟨hI_2.trans (by subst hr1 hr2;rw [hd_2];exact rfl),(by (try have kl_:=QV hr1 h1);(try have kp_:=Qw hr2 h2);exact sl)⟩) Kr (sb 2)
          · rintro ⟨out_4,A_out_4,c_out_4⟩ ⟨hJ_2,hl_out_4⟩
            exact TE.nb (TE.next (TC.region (TL.r 2 [] [(27,.i (w64 ((k:Int) + 1)))] {} (TL.done rfl (TE.rw 27 (.i (w64 ((k:Int) + 1))) (.i ((k + 1:Nat):Int)) Kr (ZD k (by (try have kl_:=QV hr1 h1);(try have kp_:=Qw hr2 h2);omega)) (TE.again (x:=(k,out,A_out,c_out)) (k + 1,out_4,A_out_4,c_out_4) ⟨by omega,hI.trans (by subst hr1 hr2;rw [hd];exact Ye (hR_2.symm.trans hJ_2) (rfl)),(by (try have kl_:=QV hr1 h1);(try have kp_:=Qw hr2 h2);exact sl)⟩ (mN hlt) Kr (sb 1)))))))
        · have hd:=XL h3
          refine TC.exit (TE.et (TE.et (TE.exit_same ?_)))
          exact TE.cut (out,A_out,c_out) (⟨hI.trans (by subst hr1 hr2;rw [hd];exact rfl),(by (try have kl_:=QV hr1 h1);(try have kp_:=Qw hr2 h2);exact sl)⟩) Kr (sb 1)
      · rintro ⟨out_2,A_out_2,c_out_2⟩ ⟨hJ,hl_out_2⟩
        refine TE.nr (TL.r 3 [] [(4,.slice A_out_2 out_2.length c_out_2),(5,.i 0)] {} (TL.next rfl (TC.ret ?_)))
        have e:Xg l plots=(out_2,0):=by subst hr1 hr2;unfold Xg;exact Zb h1 (Zb h2 (Ye (hR.symm.trans hJ) (rfl)))
        rw [e]
        exact TE.retM (.inl rfl) (A_out_2,c_out_2) [] (.tuple #[.slice A_out_2 out_2.length c_out_2,.i 0]) {} rfl (fun _ hM=>hM.sub (sb 1))
end Go.Sky
end
section
namespace Go.Sky
open Go Go.Eng Go.Proofs
def Yl (a:Zl) (b_:Zl):Int :=
  let r1:=cmp_Compare_int a.Time b_.Time
  let r2:=cmp_Compare_int a.Radar b_.Radar
  let r3:=cmp_Compare_int a.Range b_.Range
  let r4:=cmp_Compare_int a.Azimuth b_.Azimuth
  let r5:=cmp_Compare_int a.Height b_.Height
  let r6:=cmp_Compare_int a.Code b_.Code
  let r7:=QQ ([r1,r2,r3,r4,r5,r6])
  r7
set_option maxRecDepth 100000 in
theorem GU (a:Zl) (b_:Zl) (w:World):Calls Tryz.prog 105 #[Zl.v a,Zl.v b_] w (Ret w (.int .i64 (Yl a b_))):=by
  exact Zk (vs:=[Zl.v a,Zl.v b_]) (w:=w) Tryz.func105 rfl Tryz.ntmps105 rfl (TC.sr (TL.nw 2 (fun b1=>.p0 b1) (fun b1=>Bk b1 (Zl.c a) 89) (fun b1=>{}) (fun b1=>TL.nw 3 (fun b2=>.p0 b2) (fun b2=>Bk b2 (Zl.c b_) 89) (fun b2=>{}) (fun b2=>TL.r 3 [] [(4,.i 0)] {} (TL.ns (TC.drawTail 30 Kr Kr (TQ.r 4 [1,0] [(6,.i a.Time),(8,.i b_.Time)] {} (TQ.c 9 (cmp_Compare_int a.Time b_.Time) (fun r1=>.i r1) (fun w _=>ZZ a.Time b_.Time w) rfl {} (fun r1 hr1=>TQ.r 9 [1,0] [(11,.i a.Radar),(13,.i b_.Radar)] {} (TQ.c 14 (cmp_Compare_int a.Radar b_.Radar) (fun r2=>.i r2) (fun w _=>ZZ a.Radar b_.Radar w) rfl {} (fun r2 hr2=>TQ.r 14 [1,0] [(16,.i a.Range),(18,.i b_.Range)] {} (TQ.c 19 (cmp_Compare_int a.Range b_.Range) (fun r3=>.i r3) (fun w _=>ZZ a.Range b_.Range w) rfl {} (fun r3 hr3=>TQ.r 19 [1,0] [(21,.i a.Azimuth),(23,.i b_.Azimuth)] {} (TQ.c 24 (cmp_Compare_int a.Azimuth b_.Azimuth) (fun r4=>.i r4) (fun w _=>ZZ a.Azimuth b_.Azimuth w) rfl {} (fun r4 hr4=>TQ.r 24 [1,0] [(26,.i a.Height),(28,.i b_.Height)] {} (TQ.c 29 (cmp_Compare_int a.Height b_.Height) (fun r5=>.i r5) (fun w _=>ZZ a.Height b_.Height w) rfl {} (fun r5 hr5=>TQ.r 29 [1,0] [(31,.i a.Code),(33,.i b_.Code)] {} (TQ.c 34 (cmp_Compare_int a.Code b_.Code) (fun r6=>.i r6) (fun w _=>ZZ a.Code b_.Code w) rfl {} (fun r6 hr6=>TQ.tail rfl (TL.nw 35 (fun b3=>.slice (Pa b3) 6 6) (fun b3=>Bk b3 #[.i r1,.i r2,.i r3,.i r4,.i r5,.i r6] 3) (fun b3=>{}) (fun b3=>TL.c 36 (QQ ([r1,r2,r3,r4,r5,r6])) (fun r7=>.i r7) (fun w hM=>V1 (Pa b3) 6 ([r1,r2,r3,r4,r5,r6]) w (Rd.lit hM 0 _ rfl Kr Kr Kr) (Nat.le_refl _)) {} (fun r7 hr7=>TL.r 33 [] [(4,.i r7)] {} (TL.next rfl (TC.ret (TE.ret [] (.i r7) {} (by unfold Yl;refine eS (fun z=>(.i z:Value)) ?_;subst hr1 hr2 hr3 hr4 hr5 hr6 hr7;exact rfl))))))))))))))))))))))))))
end Go.Sky
end
section
namespace Go.Proofs
open Go.Shelf
def Tryz.laysPlot_ren:Go.Shelf.Ren:=⟨fun | 6=>104 | 15=>141 | 14=>152 | 28=>179 | 29=>169 | 20=>184 | 21=>185 | 22=>186 | 23=>187 | 24=>188 | 25=>189 | 26=>190 | 27=>191 | 46=>219 | 47=>204 | 48=>205 | 49=>220 | 50=>221 | 57=>232 | n=>n,fun | 22=>83 | 24=>89 | 25=>192 | 3=>3 | 39=>227 | 0=>0 | 53=>251 | 55=>162 | 4=>4 | 46=>245 | 45=>244 | 50=>208 | 5=>5 | 9=>9 | 66=>268 | 70=>272 | 76=>280 | 77=>148 | n=>n,fun | n=>n⟩
theorem Tryz.laysPlot:SlLaysF0.n6 Tryz.prog Tryz.laysPlot_ren:={
  mixed:=by kernel_rfl,
  f6:=⟨Tryz.f104.name,by decide,Tryz.func104.trans (congrArg some (by kernel_rfl))⟩,
  f14:=⟨Tryz.f152.name,by decide,Tryz.func152.trans (congrArg some (by kernel_rfl))⟩,
  f15:=Tryz.func141.trans (congrArg some (by kernel_rfl)),
  f20:=⟨Tryz.f184.name,by decide,Tryz.func184.trans (congrArg some (by kernel_rfl))⟩,
  f21:=⟨Tryz.f185.name,by decide,Tryz.func185.trans (congrArg some (by kernel_rfl))⟩,
  f22:=⟨Tryz.f186.name,by decide,Tryz.func186.trans (congrArg some (by kernel_rfl))⟩,
  f23:=⟨Tryz.f187.name,by decide,Tryz.func187.trans (congrArg some (by kernel_rfl))⟩,
  f24:=⟨Tryz.f188.name,by decide,Tryz.func188.trans (congrArg some (by kernel_rfl))⟩,
  f25:=⟨Tryz.f189.name,by decide,Tryz.func189.trans (congrArg some (by kernel_rfl))⟩,
  f26:=⟨Tryz.f190.name,by decide,Tryz.func190.trans (congrArg some (by kernel_rfl))⟩,
  f27:=⟨Tryz.f191.name,by decide,Tryz.func191.trans (congrArg some (by kernel_rfl))⟩,
  f28:=Tryz.func179.trans (congrArg some (by kernel_rfl)),
  f29:=Tryz.func169.trans (congrArg some (by kernel_rfl)),
  f46:=⟨Tryz.f219.name,by decide,Tryz.func219.trans (congrArg some (by kernel_rfl))⟩,
  f47:=Tryz.func204.trans (congrArg some (by kernel_rfl)),
  f48:=Tryz.func205.trans (congrArg some (by kernel_rfl)),
  f49:=⟨Tryz.f220.name,by decide,Tryz.func220.trans (congrArg some (by kernel_rfl))⟩,
  f50:=⟨Tryz.f221.name,by decide,Tryz.func221.trans (congrArg some (by kernel_rfl))⟩,
  f57:=⟨Tryz.f232.name,by decide,Tryz.func232.trans (congrArg some (by kernel_rfl))⟩,
  t0:=Tryz.underlying0,
  a0:=Tryz.isAgg0,
  z0:=Tryz.sizeOf0,
  v0:=Tryz.zeroValue0,
  t3:=Tryz.underlying3,
  a3:=Tryz.isAgg3,
  z3:=Tryz.sizeOf3,
  v3:=Tryz.zeroValue3,
  t4:=Tryz.underlying4,
  a4:=Tryz.isAgg4,
  z4:=Tryz.sizeOf4,
  v4:=Tryz.zeroValue4,
  t5:=Tryz.underlying5,
  a5:=Tryz.isAgg5,
  z5:=Tryz.sizeOf5,
  v5:=Tryz.zeroValue5,
  t9:=Tryz.underlying9,
  a9:=Tryz.isAgg9,
  z9:=Tryz.sizeOf9,
  v9:=Tryz.zeroValue9,
  t22:=Tryz.underlying83,
  a22:=Tryz.isAgg83,
  z22:=Tryz.sizeOf83,
  v22:=Tryz.zeroValue83,
  t25:=Tryz.underlying192,
  a25:=Tryz.isAgg192,
  z25:=Tryz.sizeOf192,
  v25:=Tryz.zeroValue192,
  t39:=Tryz.underlying227,
  a39:=Tryz.isAgg227,
  z39:=Tryz.sizeOf227,
  v39:=Tryz.zeroValue227,
  t45:=Tryz.underlying244,
  a45:=Tryz.isAgg244,
  z45:=Tryz.sizeOf244,
  v45:=Tryz.zeroValue244,
  t46:=Tryz.underlying245,
  a46:=Tryz.isAgg245,
  z46:=Tryz.sizeOf245,
  v46:=Tryz.zeroValue245,
  t50:=Tryz.underlying208,
  a50:=Tryz.isAgg208,
  z50:=Tryz.sizeOf208,
  v50:=Tryz.zeroValue208,
  t53:=Tryz.underlying251,
  a53:=Tryz.isAgg251,
  z53:=Tryz.sizeOf251,
  v53:=Tryz.zeroValue251,
  t55:=Tryz.underlying162,
  a55:=Tryz.isAgg162,
  z55:=Tryz.sizeOf162,
  v55:=Tryz.zeroValue162,
  t66:=Tryz.underlying268,
  a66:=Tryz.isAgg268,
  z66:=Tryz.sizeOf268,
  v66:=Tryz.zeroValue268,
  t70:=Tryz.underlying272,
  a70:=Tryz.isAgg272,
  z70:=Tryz.sizeOf272,
  v70:=Tryz.zeroValue272,
  t76:=Tryz.underlying280,
  a76:=Tryz.isAgg280,
  z76:=Tryz.sizeOf280,
  v76:=Tryz.zeroValue280,
  t77:=Tryz.underlying148,
  a77:=Tryz.isAgg148,
  z77:=Tryz.sizeOf148,
  v77:=Tryz.zeroValue148 }
end Go.Proofs
end
section
namespace Go.Srt
open Go Go.Eng Go.Sky Go.Proofs Go.Sort
def HW (p:Zl):List Int:=[p.Time,p.Radar,p.Range,p.Azimuth,p.Height,p.Code]
theorem DO (x y:Zl):ltOf Yl x y=lx (HW x) (HW y):=Cc (HW x) (HW y) 0 rfl
theorem ED:SWO (ltOf Yl):=by
  have irr:∀ x,ltOf Yl x x=false:=fun x=>by
    cases h:ltOf Yl x x with
    | false=>rfl
    | true=>rw [DO] at h;rw [Gf _ _ h] at h;cases h
  have ntr:∀ x y z,ltOf Yl x y=false → ltOf Yl y z=false → ltOf Yl x z=false:=fun x y z h1 h2=>by
    rw [DO] at h1 h2 ⊢;exact NC (HW x) (HW y) (HW z) rfl rfl h1 h2
  refine ⟨irr,fun x y z h1 h2=>?_,ntr⟩
  cases h:ltOf Yl x z with
  | true=>rfl
  | false =>
    exfalso
    have h3:ltOf Yl z y=false:=by rw [DO] at h2 ⊢;exact Gf _ _ h2
    rw [ntr x z y h h3] at h1;cases h1
theorem EE (x y:Zl) (h1:ltOf Yl x y=false) (h2:ltOf Yl y x=false):x=y:=by
  rw [DO] at h1 h2
  have:=ND (HW x) (HW y) rfl h1 h2
  cases x;cases y
  simp [HW] at this
  simp [this]
instance:Inhabited Zl:=⟨Zl.zero⟩
def U6 (l:List Zl):List Zl:=l.mergeSort (fun x y=>!ltOf Yl y x)
theorem EF (x y:Zl) (W:World):Calls Tryz.prog 105 #[.agg (Zl.c x),.agg (Zl.c y)] W (Ret W (.int .i64 (Yl x y))):=GU x y W
set_option maxRecDepth 100000 in
theorem MK (A:Option Addr) (cap e:Nat) (l:List Zl) (w:World) (hM:Sat ⟨w,Xf [.inr (Own A cap e 6 (l.map Zl.c))]⟩ [.inr (Own A cap e 6 (l.map Zl.c))] w) :
    Calls Tryz.prog 104 #[.slice A l.length cap,.func (.func 105) #[] #[]] w (QK (Γ:=List Zl) ⟨w,Xf [.inr (Own A cap e 6 (l.map Zl.c))]⟩ (fun _=>.tuple #[])
      (fun r=>[.inr (X8 (r.length=l.length ∧ r=U6 l)),.inr (Own A cap e 6 (r.map Zl.c))])) :=
  F9 (P:=Tryz.prog) (c:=Zl.c) (k:=6) Tryz.laysPlot (fun _=>by kernel_rfl) (fun _=>by kernel_rfl) (fun _=>rfl) (fun x v hv=>by simp [Zl.c] at hv;rcases hv with rfl | rfl | rfl | rfl | rfl | rfl <;> rfl) Yl ED 105 (fun _ _=>by kernel_rfl) EF EE A cap e l w hM
end Go.Srt
end
section
namespace Go.Srt
open Go Go.Eng
section
variable {T:Type}
def G0 (q:T → T → Bool) (p:T):List T → List T
  | []=>[]
  | b :: l=>if q b p=true then G0 q b l else b :: G0 q b l
def cpt (q:T → T → Bool):List T → List T
  | []=>[]
  | a :: l=>a :: G0 q a l
variable {q:T → T → Bool} {z:T}
theorem B8 (b:T):∀ (l:List T) (p:T),G0 q p (l ++ [b])=G0 q p l ++ (if q b ((p :: l)[l.length]?.getD z)=true then [] else [b])
  | [],p=>by simp [G0]
  | a :: l,p=>by
    have ih:=B8 b l a
    have e:(p :: a :: l)[(a :: l).length]?.getD z=(a :: l)[l.length]?.getD z:=by simp
    rw [e]
    simp only [List.cons_append,G0]
    rw [ih]
    split <;> simp
theorem Nx (l:List T) (m:Nat) (h1:1 ≤ m) (h2:m < l.length) :
    cpt q (l.take (m + 1))=cpt q (l.take m) ++ (if q (l[m]?.getD z) (l[m - 1]?.getD z)=true then [] else [l[m]?.getD z]):=by
  have e:l.take (m + 1)=l.take m ++ [l[m]?.getD z]:=by
    rw [List.take_add_one,List.getElem?_eq_getElem h2];rfl
  rw [e]
  cases l with
  | nil=>simp at h2
  | cons a l =>
    obtain ⟨n,rfl⟩:∃ n,m=n + 1:=⟨m - 1,by omega⟩
    simp only [List.length_cons] at h2
    simp only [List.take_succ_cons,List.cons_append,cpt,List.cons.injEq,true_and]
    rw [B8 (z:=z)]
    have hl:(l.take n).length=n:=by rw [List.length_take];omega
    have e2:(a :: l.take n)[(l.take n).length]?.getD z=(a :: l)[n + 1 - 1]?.getD z:=by
      rw [hl,Nat.add_sub_cancel]
      cases n with
      | zero=>simp
      | succ n=>simp
    rw [e2]
theorem P4 {l:List T} (h:2 ≤ l.length):cpt q (l.take (1:Int).toNat)=l.take (1:Int).toNat:=by
  cases l with
  | nil=>simp at h
  | cons a l=>simp [cpt,G0]
theorem GV {l:List T} (h:l.length < 2):l=cpt q l:=by
  match l,h with
  | [],_=>rfl
  | [a],_=>rfl
theorem P5 {l:List T} {k:Int} (h:cpt q (l.take k.toNat)=l.take k.toNat) (h2:(l.length:Int) ≤ k):l=cpt q l:=by
  rw [List.take_of_length_le (by omega)] at h;exact h.symm
theorem L2 {l:List T} {k:Int} (h1:1 ≤ k) (h2:k < l.length) (h:q (l[k.toNat]?.getD z) (l[(k - 1).toNat]?.getD z)=false) :
    cpt q (l.take (k + 1).toNat)=cpt q (l.take k.toNat) ++ [l[k.toNat]?.getD z]:=by
  have:=Nx (q:=q) (z:=z) l k.toNat (by omega) (by omega)
  rw [show (k + 1).toNat=k.toNat + 1 by omega,this,show k.toNat - 1=(k - 1).toNat by omega,h];simp
theorem L6 {l:List T} {k:Int} (h1:1 ≤ k) (h2:k < l.length) (h:q (l[k.toNat]?.getD z) (l[(k - 1).toNat]?.getD z)=true) :
    cpt q (l.take (k + 1).toNat)=cpt q (l.take k.toNat):=by
  have:=Nx (q:=q) (z:=z) l k.toNat (by omega) (by omega)
  rw [show (k + 1).toNat=k.toNat + 1 by omega,this,show k.toNat - 1=(k - 1).toNat by omega,h];simp
theorem B9 {l:List T} {k:Int} (h1:0 ≤ k) (h2:k < l.length):l.take (k + 1).toNat=l.take k.toNat ++ [l[k.toNat]?.getD z]:=by
  rw [show (k + 1).toNat=k.toNat + 1 by omega,List.take_add_one,List.getElem?_eq_getElem (by omega)];rfl
theorem TN {l:List T} {k:Int} (h:cpt q (l.take k.toNat)=l.take k.toNat) (h1:1 ≤ k) (h2:k < l.length) (hq:q (l[k.toNat]?.getD z) (l[(k - 1).toNat]?.getD z)=false) :
    cpt q (l.take (k + 1).toNat)=l.take (k + 1).toNat:=by rw [L2 h1 h2 hq,h,B9 (z:=z) (by omega) h2]
theorem O2 {l:List T} {k:Int} (h:cpt q (l.take k.toNat)=l.take k.toNat) (h1:1 ≤ k) (h2:k < l.length) (hq:q (l[k.toNat]?.getD z) (l[(k - 1).toNat]?.getD z)=true) :
    cpt q (l.take (k + 1).toNat)=l.take k.toNat:=by rw [L6 h1 h2 hq,h]
def Cin (q:T → T → Bool) (l:List T) (b i k:Int) (d:List T):Prop:=cpt q (l.take (b + i).toNat)=d.take k.toNat ∧ d.drop (b + i - 1).toNat=l.drop (b + i - 1).toNat
theorem drop_at (l:List T) (b i:Int) (h1:0 ≤ b) (h2:0 ≤ i):(l.drop b.toNat)[i.toNat]?.getD z=l[(b + i).toNat]?.getD z:=by
  rw [List.getElem?_drop];congr 2;omega
theorem ML {l d:List T} {a i:Nat} (h:d.drop a=l.drop a) (hi:a ≤ i):d[i]?=l[i]?:=by
  have:=congrArg (fun x=>x[i - a]?) h
  simp only [List.getElem?_drop] at this
  rwa [show a + (i - a)=i by omega] at this
theorem HB {l d:List T} {b i k j:Int} (h:Cin q l b i k d) (h1:b + i - 1 ≤ b + j) (h2:1 ≤ b) (h3:1 ≤ i):(d.drop b.toNat)[j.toNat]?.getD z=l[(b + j).toNat]?.getD z:=by
  rw [drop_at d b j (by omega) (by omega),ML h.2 (by omega)]
theorem Rn {l:List T} {k:Int} (h:cpt q (l.take k.toNat)=l.take k.toNat) (h1:1 ≤ k) (h2:k < l.length) (hq:q (l[k.toNat]?.getD z) (l[(k - 1).toNat]?.getD z)=true):Cin q l k 1 k l :=
  ⟨O2 h h1 h2 hq,rfl⟩
theorem TO {l d:List T} {b i k:Int} (h:Cin q l b i k d) (h1:1 ≤ b) (h2:1 ≤ i) (h3:b + i < l.length)
    (hq:q ((d.drop b.toNat)[i.toNat]?.getD z) ((d.drop b.toNat)[(i - 1).toNat]?.getD z)=true):Cin q l b (i + 1) k d:=by
  rw [HB h (by omega) h1 h2,HB h (by omega) h1 h2] at hq
  rw [show b + (i - 1)=b + i - 1 by omega] at hq
  refine ⟨?_,?_⟩
  · rw [show b + (i + 1)=(b + i) + 1 by omega,L6 (by omega) h3 hq];exact h.1
  · have:=congrArg (List.drop 1) h.2
    rw [List.drop_drop,List.drop_drop] at this
    rwa [show (b + i - 1).toNat + 1=(b + (i + 1) - 1).toNat by omega] at this
theorem TP {l d:List T} {b i k:Int} (h:Cin q l b i k d) (h1:1 ≤ b) (h2:1 ≤ i) (h3:b + i < l.length) (h4:0 ≤ k) (h5:k ≤ b + i - 1) (h6:d.length=l.length)
    (hq:q ((d.drop b.toNat)[i.toNat]?.getD z) ((d.drop b.toNat)[(i - 1).toNat]?.getD z)=false):Cin q l b (i + 1) (k + 1) (d.set k.toNat ((d.drop b.toNat)[i.toNat]?.getD z)):=by
  rw [HB h (by omega) h1 h2,HB h (by omega) h1 h2] at hq
  rw [show b + (i - 1)=b + i - 1 by omega] at hq
  rw [HB h (by omega) h1 h2]
  refine ⟨?_,?_⟩
  · rw [show b + (i + 1)=(b + i) + 1 by omega,L2 (by omega) h3 hq,h.1,B9 (z:=z) h4 (by rw [List.length_set];omega)]
    rw [List.take_set_of_le (by omega),List.getElem?_set_self (by omega)];rfl
  · have:=congrArg (List.drop 1) h.2
    rw [List.drop_drop,List.drop_drop] at this
    rw [show (b + i - 1).toNat + 1=(b + (i + 1) - 1).toNat by omega] at this
    rw [List.drop_set_of_lt (by omega)];exact this
theorem P6 {l d:List T} {b i k:Int} (h:Cin q l b i k d) (h1:(l.length:Int) ≤ b + i):d.take k.toNat=cpt q l:=by
  have:=h.1
  rw [List.take_of_length_le (by omega)] at this;exact this.symm
theorem UN {l:List T} {k:Nat} {x:List T} (h:k ≤ l.length):(l.take k ++ x).take k=l.take k:=by
  rw [List.take_append,List.take_of_length_le (by rw [List.length_take];omega),List.length_take,show k - min k l.length=0 by omega];simp
end
end Go.Srt
end
