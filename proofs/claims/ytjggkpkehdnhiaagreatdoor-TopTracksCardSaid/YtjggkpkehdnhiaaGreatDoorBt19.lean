/- Lemmas toward the given statement (part 19 of 22): Dir TabAll Gu Gf OfB Gv Gw Wr RadT. Each theorem states its own conditions; nothing is assumed beyond them. -/
import Derived.Test.YtjggkpkehdnhiaaGreatDoorBt14
import Derived.Test.YtjggkpkehdnhiaaGreatDoorBt15
import Derived.Test.YtjggkpkehdnhiaaGreatDoorBt16
import Derived.Test.YtjggkpkehdnhiaaGreatDoorBt17
import Derived.Test.YtjggkpkehdnhiaaGreatDoorBt18
import Derived.Test.YtjggkpkehdnhiaaGreatDoorBt04
section
namespace Go.Sky
open Go Go.Eng
def Hw (a:Nat):Nat → Bool
  | 0=>true
  | n + 1=>(decide (YW a ≤ 16384) && decide (0 < YW (1024 - a)) && decide (YW a * YW (1024 - (a + 1)) < YW (1024 - a) * YW (a + 1))) && Hw (a + 1) n
theorem Nl (a n:Nat):Hw a (n + 1)=((decide (YW a ≤ 16384) && decide (0 < YW (1024 - a)) && decide (YW a * YW (1024 - (a + 1)) < YW (1024 - a) * YW (a + 1))) && Hw (a + 1) n):=rfl
theorem GL (n:Nat):∀ a,Hw a n=true → ∀ k,a ≤ k → k < a + n → YW k ≤ 16384 ∧ 0 < YW (1024 - k) ∧ YW k * YW (1024 - (k + 1)) < YW (1024 - k) * YW (k + 1):=by
  induction n with
  | zero=>intro a _ k h1 h2;omega
  | succ n ih =>
    intro a h k h1 h2
    rw [Nl,Bool.and_eq_true,Bool.and_eq_true,Bool.and_eq_true] at h
    by_cases he:a=k
    · rw [← he];exact ⟨of_decide_eq_true h.1.1.1,of_decide_eq_true h.1.1.2,of_decide_eq_true h.1.2⟩
    · exact ih (a + 1) h.2 k (by omega) (by omega)
set_option maxRecDepth 100000 in
theorem GM:Hw 0 1024=true:=by kernel_rfl
theorem Gq:YW 0=0:=by kernel_rfl
theorem Hy:YW 1024=16384:=by kernel_rfl
theorem Gs {k:Nat} (h:k ≤ 1024):YW k ≤ 16384:=by
  by_cases he:k=1024
  · subst he;rw [Hy];decide
  · exact (GL 1024 0 GM k (by omega) (by omega)).1
theorem GN {k:Nat} (h:k < 1024):0 < YW (1024 - k):=(GL 1024 0 GM k (by omega) (by omega)).2.1
theorem Hz {k:Nat} (h:k < 1024):YW k * YW (1024 - (k + 1)) < YW (1024 - k) * YW (k + 1):=(GL 1024 0 GM k (by omega) (by omega)).2.2
theorem M5 {n:Nat} (h:n ≤ 1024):VK n=(YW n:Int):=by unfold VK;rw [Nat.ble_eq_true_of_le h];rfl
theorem B0 {a b:Nat} (h:b < a):Nat.ble a b=false:=by
  cases hb:Nat.ble a b with
  | false=>rfl
  | true=>have:=Nat.le_of_ble_eq_true hb;omega
theorem Ri {n:Nat} (h1:1024 < n) (h:n ≤ 2048):VK n=(YW (2048 - n):Int):=by unfold VK;rw [B0 h1,Nat.ble_eq_true_of_le h];rfl
theorem Oq {n:Nat} (h1:2048 < n) (h:n ≤ 3072):VK n=-(YW (n - 2048):Int):=by unfold VK;rw [B0 (show 1024 < n by omega),B0 h1,Nat.ble_eq_true_of_le h];rfl
theorem Ot {n:Nat} (h1:3072 < n):VK n=-(YW (4096 - n):Int):=by unfold VK;rw [B0 (show 1024 < n by omega),B0 (show 2048 < n by omega),B0 h1];rfl
theorem M6 {n:Nat} (h:n < 4096):-16384 ≤ VK n ∧ VK n ≤ 16384:=by
  by_cases c1:n ≤ 1024
  · rw [M5 c1];have:=Gs c1;omega
  by_cases c2:n ≤ 2048
  · rw [Ri (by omega) c2];have:=Gs (show 2048 - n ≤ 1024 by omega);omega
  by_cases c3:n ≤ 3072
  · rw [Oq (by omega) c3];have:=Gs (show n - 2048 ≤ 1024 by omega);omega
  · rw [Ot (by omega)];have:=Gs (show 4096 - n ≤ 1024 by omega);omega
theorem Tn {n:Nat} (h:n < 4096):VK ((n + 2048) % 4096)=-VK n:=by
  by_cases c0:n=0
  · subst c0;rw [show (0 + 2048) % 4096=2048 from rfl,Ri (n:=2048) (by decide) (by decide),M5 (n:=0) (by decide),show 2048 - 2048=0 from rfl,Gq];rfl
  by_cases c1:n ≤ 1024
  · rw [show (n + 2048) % 4096=n + 2048 by omega,Oq (by omega) (by omega),M5 c1,show n + 2048 - 2048=n by omega]
  by_cases c2:n ≤ 2048
  · by_cases c:n=2048
    · subst c;rw [show (2048 + 2048) % 4096=0 from rfl,Ri (n:=2048) (by decide) (by decide),M5 (n:=0) (by decide),show 2048 - 2048=0 from rfl,Gq];rfl
    · rw [show (n + 2048) % 4096=n + 2048 by omega,Ot (by omega),Ri (by omega) c2,show 4096 - (n + 2048)=2048 - n by omega]
  by_cases c3:n ≤ 3072
  · rw [show (n + 2048) % 4096=n - 2048 by omega,M5 (by omega),Oq (by omega) c3];omega
  · rw [show (n + 2048) % 4096=n - 2048 by omega,Ri (by omega) (by omega),Ot (by omega),show 2048 - (n - 2048)=4096 - n by omega];omega
def sn (k:Nat):Int:=VK (k % 4096)
def cs (k:Nat):Int:=VK ((k + 1024) % 4096)
theorem B1 (k:Nat):-16384 ≤ sn k ∧ sn k ≤ 16384:=M6 (Nat.mod_lt _ (by decide))
theorem B2 (k:Nat):-16384 ≤ cs k ∧ cs k ≤ 16384:=M6 (Nat.mod_lt _ (by decide))
theorem VC (k:Nat):sn (k + 1024)=cs k:=rfl
theorem VD (k:Nat):cs (k + 1024)=-sn k:=by
  unfold cs sn
  rw [show (k + 1024 + 1024) % 4096=(k % 4096 + 2048) % 4096 by omega]
  exact Tn (Nat.mod_lt _ (by decide))
theorem Gt (k:Nat):sn (k % 4096)=sn k:=by unfold sn;rw [Nat.mod_mod]
theorem Gu (k:Nat):cs (k % 4096)=cs k:=by unfold cs;rw [show (k % 4096 + 1024) % 4096=(k + 1024) % 4096 by omega]
theorem M7 {k:Nat} (h:k ≤ 1024):sn k=(YW k:Int):=by unfold sn;rw [Nat.mod_eq_of_lt (by omega)];exact M5 h
theorem M8 {k:Nat} (h:k ≤ 1024):cs k=(YW (1024 - k):Int):=by
  unfold cs
  rw [Nat.mod_eq_of_lt (by omega)]
  by_cases h0:k=0
  · subst h0;exact M5 (by decide)
  · rw [Ri (by omega) (by omega),show 2048 - (k + 1024)=1024 - k by omega]
def Sec (k:Nat) (x y:Int):Prop:=0 ≤ cs k * x - sn k * y ∧ 0 < y * sn (k + 1) - x * cs (k + 1) ∧ 0 < sn k * x + cs k * y
instance (k:Nat) (x y:Int):Decidable (Sec k x y):=by unfold Sec;infer_instance
theorem JD (k:Nat) (x y:Int):Sec (k + 1024) x y ↔ Sec k (-y) x:=by
  unfold Sec
  rw [show k + 1024 + 1=k + 1 + 1024 by omega,VC,VC,VD,VD]
  generalize cs k=a;generalize sn k=b;generalize cs (k + 1)=c;generalize sn (k + 1)=d
  have e1:-b * x - a * y=a * -y - b * x:=by grind
  have e2:y * c - x * -d=x * d - -y * c:=by grind
  have e3:a * x + -b * y=b * -y + a * x:=by grind
  rw [e1,e2,e3]
theorem Js {k:Nat} {x y:Int} (hk:k < 1024) (h:Sec k x y):0 ≤ x ∧ 0 < y:=by
  obtain ⟨h1,h2,h3⟩:=h
  rw [M7 (by omega),M8 (by omega)] at h1 h3
  rw [M7 (by omega),M8 (by omega)] at h2
  have p1:=GN hk
  have p4:0 < YW (k + 1):=by
    have:=Hz hk
    rcases Nat.eq_zero_or_pos (YW (k + 1)) with h | h
    · rw [h,Nat.mul_zero] at this;omega
    · exact h
  generalize YW k=a at *;generalize YW (1024 - k)=b at *;generalize YW (k + 1)=c at *;generalize YW (1024 - (k + 1))=d at *
  have hy:0 < y:=by
    rcases Int.lt_or_le 0 y with hy | hy
    · exact hy
    · exfalso
      have n1:(a:Int) * y ≤ 0:=Int.mul_nonpos_of_nonneg_of_nonpos (Int.natCast_nonneg _) hy
      have n2:(b:Int) * y ≤ 0:=Int.mul_nonpos_of_nonneg_of_nonpos (Int.natCast_nonneg _) hy
      have n3:y * (c:Int) ≤ 0:=Int.mul_nonpos_of_nonpos_of_nonneg hy (Int.natCast_nonneg _)
      rcases Int.lt_or_le 0 x with hx | hx
      · have n4:0 ≤ x * (d:Int):=Int.mul_nonneg (Int.le_of_lt hx) (Int.natCast_nonneg _)
        omega
      · have n4:(a:Int) * x ≤ 0:=Int.mul_nonpos_of_nonneg_of_nonpos (Int.natCast_nonneg _) hx
        omega
  refine ⟨?_,hy⟩
  rcases Int.lt_or_le x 0 with hx | hx
  · exfalso
    have n1:0 ≤ (a:Int) * y:=Int.mul_nonneg (Int.natCast_nonneg _) (Int.le_of_lt hy)
    have n2:(b:Int) * x < 0:=Int.mul_neg_of_pos_of_neg (by omega) hx
    omega
  · exact hx
theorem Nn {k:Nat} {x y:Int} (hk:k < 1024) (hy:0 < y) (h:0 ≤ cs (k + 1) * x - sn (k + 1) * y):0 ≤ cs k * x - sn k * y:=by
  rw [M7 (by omega),M8 (by omega)] at h ⊢
  have p1:=GN hk
  have t:=Hz hk
  generalize YW k=a at *;generalize YW (1024 - k)=b at *;generalize YW (k + 1)=c at *;generalize YW (1024 - (k + 1))=d at *
  have p4:0 < c:=by rcases Nat.eq_zero_or_pos c with h | h;rw [h,Nat.mul_zero] at t;omega;exact h
  have t':(a:Int) * d < b * c:=by rw [← Int.natCast_mul,← Int.natCast_mul];exact Int.ofNat_lt.2 t
  rcases Nat.eq_zero_or_pos d with hd | hd
  · exfalso
    subst hd
    have:0 < (c:Int) * y:=Int.mul_pos (by omega) hy
    simp at h;omega
  ·
    have e1:(d:Int) * ((b:Int) * x - a * y)=b * (d * x - c * y) + (b * c - a * d) * y:=by grind
    have q1:0 ≤ (b:Int) * (d * x - c * y):=Int.mul_nonneg (by omega) h
    have q2:0 < ((b:Int) * c - a * d) * y:=Int.mul_pos (by omega) hy
    have q3:0 < (d:Int) * ((b:Int) * x - a * y):=by omega
    rcases Int.lt_or_le ((b:Int) * x - a * y) 0 with h5 | h5
    · have:=Int.mul_neg_of_pos_of_neg (show (0:Int) < d by omega) h5;omega
    · exact h5
theorem M9 {x y:Int} (hy:0 < y):∀ (n k:Nat),k + n ≤ 1024 → 0 ≤ cs (k + n) * x - sn (k + n) * y → 0 ≤ cs k * x - sn k * y:=by
  intro n
  induction n with
  | zero=>intro k _ h;exact h
  | succ n ih=>intro k hk h;exact ih k (by omega) (Nn (k:=k + n) (by omega) hy h)
theorem H2 {k l:Nat} {x y:Int} (hl:l < 1024) (hkl:k < l) (hy:0 < y) (h:Sec k x y) (h':Sec l x y):False:=by
  have a:=M9 (x:=x) hy (l - (k + 1)) (k + 1) (by omega) (by rw [show k + 1 + (l - (k + 1))=l by omega];exact h'.1)
  have b:=h.2.1
  generalize cs (k + 1)=c at *;generalize sn (k + 1)=d at *
  have e:y * d - x * c=-(c * x - d * y):=by grind
  omega
theorem W6 {k l:Nat} {x y:Int} (hk:k < 1024) (hl:l < 1024) (h:Sec k x y) (h':Sec l x y):k=l:=by
  have hy:=(Js hk h).2
  rcases Nat.lt_trichotomy k l with c | c | c
  · exact (H2 hl c hy h h').elim
  · exact c
  · exact (H2 hk c hy h' h).elim
theorem Gv {x y:Int} (hx:0 ≤ x) (hy:0 < y):∃ k,k < 1024 ∧ Sec k x y:=by
  have key:∀ n,n ≤ 1024 → (∃ k,k < n ∧ Sec k x y) ∨ 0 ≤ cs n * x - sn n * y:=by
    intro n
    induction n with
    | zero =>
      intro _
      refine .inr ?_
      rw [M7 (by omega),M8 (by omega),Gq,show 1024 - 0=1024 from rfl,Hy]
      simp;omega
    | succ n ih =>
      intro hn
      rcases ih (by omega) with ⟨k,h1,h2⟩ | h
      · exact .inl ⟨k,by omega,h2⟩
      · by_cases c:0 ≤ cs (n + 1) * x - sn (n + 1) * y
        · exact .inr c
        · refine .inl ⟨n,by omega,h,?_,?_⟩
          · generalize cs (n + 1)=q at *;generalize sn (n + 1)=d at *
            have e:y * d - x * q=-(q * x - d * y):=by grind
            omega
          · rw [M7 (by omega),M8 (by omega)]
            have p1:=GN (show n < 1024 by omega)
            have q1:0 ≤ (YW n:Int) * x:=Int.mul_nonneg (Int.natCast_nonneg _) hx
            have q2:0 < (YW (1024 - n):Int) * y:=Int.mul_pos (by omega) hy
            omega
  rcases key 1024 (by omega) with h | h
  · exact h
  · exfalso
    rw [M7 (by omega),M8 (by omega),show 1024 - 1024=0 from rfl,Gq,Hy] at h
    simp at h;omega
theorem GO {k:Nat} {x y:Int} (hk:k < 4096) (h:Sec k x y):(k < 1024 ∧ 0 ≤ x ∧ 0 < y ∧ Sec k x y) ∨ (1024 ≤ k ∧ k < 2048 ∧ 0 ≤ -y ∧ 0 < x ∧ Sec (k - 1024) (-y) x) ∨
    (2048 ≤ k ∧ k < 3072 ∧ 0 ≤ -x ∧ 0 < -y ∧ Sec (k - 2048) (-x) (-y)) ∨ (3072 ≤ k ∧ 0 ≤ y ∧ 0 < -x ∧ Sec (k - 3072) y (-x)):=by
  by_cases c1:k < 1024
  · exact .inl ⟨c1,(Js c1 h).1,(Js c1 h).2,h⟩
  have h1:Sec (k - 1024) (-y) x:=(JD (k - 1024) x y).1 (by rw [show k - 1024 + 1024=k by omega];exact h)
  by_cases c2:k < 2048
  · exact .inr (.inl ⟨by omega,c2,(Js (by omega) h1).1,(Js (by omega) h1).2,h1⟩)
  have h2:Sec (k - 2048) (-x) (-y):=(JD (k - 2048) (-y) x).1 (by rw [show k - 2048 + 1024=k - 1024 by omega];exact h1)
  by_cases c3:k < 3072
  · exact .inr (.inr (.inl ⟨by omega,c3,(Js (by omega) h2).1,(Js (by omega) h2).2,h2⟩))
  have h3:Sec (k - 3072) y (-x):=by
    have:=(JD (k - 3072) (-x) (-y)).1 (by rw [show k - 3072 + 1024=k - 2048 by omega];exact h2)
    rwa [Int.neg_neg] at this
  exact .inr (.inr (.inr ⟨by omega,(Js (by omega) h3).1,(Js (by omega) h3).2,h3⟩))
theorem Tq {k l:Nat} {x y:Int} (hk:k < 4096) (hl:l < 4096) (h:Sec k x y) (h':Sec l x y):k=l:=by
  rcases GO hk h with a | a | a | a <;> rcases GO hl h' with b | b | b | b <;> first | omega | skip
  · exact W6 a.1 b.1 a.2.2.2 b.2.2.2
  · have:=W6 (by omega) (by omega) a.2.2.2.2 b.2.2.2.2;omega
  · have:=W6 (by omega) (by omega) a.2.2.2.2 b.2.2.2.2;omega
  · have:=W6 (by omega) (by omega) a.2.2.2 b.2.2.2;omega
theorem Ph {x y:Int} (h:¬ (x=0 ∧ y=0)):∃ k,k < 4096 ∧ Sec k x y:=by
  by_cases c1:0 ≤ x ∧ 0 < y
  · obtain ⟨k,h1,h2⟩:=Gv c1.1 c1.2
    exact ⟨k,by omega,h2⟩
  by_cases c2:0 ≤ -y ∧ 0 < x
  · obtain ⟨k,h1,h2⟩:=Gv c2.1 c2.2
    exact ⟨k + 1024,by omega,(JD k x y).2 h2⟩
  by_cases c3:0 ≤ -x ∧ 0 < -y
  · obtain ⟨k,h1,h2⟩:=Gv c3.1 c3.2
    exact ⟨k + 1024 + 1024,by omega,(JD _ x y).2 ((JD k (-y) x).2 h2)⟩
  · obtain ⟨k,h1,h2⟩:=Gv (x:=y) (y:=-x) (by omega) (by omega)
    exact ⟨k + 1024 + 1024 + 1024,by omega,(JD _ x y).2 ((JD _ (-y) x).2 ((JD k (-x) (-y)).2 (by rw [Int.neg_neg];exact h2)))⟩
def UJ (x y:Int):Nat:=((List.range 4096).find? (fun k=>decide (Sec k x y))).getD 0
theorem W7 {x y:Int} (h:¬ (x=0 ∧ y=0)):UJ x y < 4096 ∧ Sec (UJ x y) x y:=by
  obtain ⟨k,h1,h2⟩:=Ph h
  unfold UJ
  cases hf:(List.range 4096).find? (fun k=>decide (Sec k x y)) with
  | none =>
    rw [List.find?_eq_none] at hf
    exact absurd (decide_eq_true h2) (hf k (List.mem_range.2 h1))
  | some l =>
    have a:=List.find?_some hf
    have b:=List.mem_of_find?_eq_some hf
    exact ⟨List.mem_range.1 b,of_decide_eq_true a⟩
theorem Pi {k:Nat} {x y:Int} (hk:k < 4096) (h:Sec k x y):UJ x y=k:=by
  have h0:¬ (x=0 ∧ y=0):=by
    rintro ⟨rfl,rfl⟩
    have:=h.2.2
    simp at this
  exact Tq (W7 h0).1 hk (W7 h0).2 h
end Go.Sky
end
section
namespace Go.Sky
open Go Go.Eng
theorem Tt {n:Nat} (h:n < 4096):floatToIntVal .f64 (M4 n) .i64=some (VK n):=by
  refine Oo ?_
  by_cases c1:n < 1024
  · exact E6 n (by omega) (by omega)
  by_cases c2:n < 2048
  · exact E7 n (by omega) (by omega)
  by_cases c3:n < 3072
  · exact E8 n (by omega) (by omega)
  · exact E9 n (by omega) (by omega)
theorem Tu {x:Nat} {k:IntKind} {t:Int} (h:floatToIntVal .f64 x k=some t):f2i x=t:=by
  unfold floatToIntVal at h
  unfold f2i
  split at h
  · rename_i n hn
    split at h
    · cases h;rw [hn];rfl
    · cases h
  · cases h
theorem Tv (h:Int):h.tmod 4096=if 0 ≤ h then h % 4096 else -(-h % 4096):=by
  split
  · rename_i h0;exact Int.tmod_eq_emod_of_nonneg h0
  · rename_i h0
    have:=Int.neg_tmod (-h) 4096
    rw [Int.neg_neg] at this
    rw [this,Int.tmod_eq_emod_of_nonneg (by omega)]
theorem Ul (h:Int):ZM h=h % 4096:=by
  unfold ZM
  have a:=Tv h
  have b:-4096 < h.tmod 4096 ∧ h.tmod 4096 < 4096:=by rw [a];split <;> omega
  rw [Zm (by omega),Int.tmod_eq_emod_of_nonneg (by omega),a]
  split <;> omega
theorem ZS {h r:Int} (hr:ZM h=r):0 ≤ r ∧ r < 4096:=by rw [Ul] at hr;omega
theorem Gw {h r:Int} (hr:ZM h=r):Po 12 (dbl r):=CY 12 (by have:=ZS hr;omega) (ZS hr).1
theorem Pj (x y:Nat):fdiv x y < 18446744073709551616:=by
  unfold fdiv
  cases h:FloatKind.f64.format.div x y with
  | none=>decide
  | some r=>exact FloatKind.f64.format.div_lt h
theorem Pm {zz:Nat} [h:Bd 40 zz]:Bd 400 (SZ zz):=by unfold SZ SX;exact X6
theorem Pn {z zz:Nat} [h:Bd 20 z] [h2:Bd 40 zz]:Bd 400 (SY z zz):=by unfold SY SX;exact X6
theorem Lt {j:Int} {z:Nat} [h:Bd 20 z]:Bd 400 (Gp j z):=by
  unfold Gp
  have i_:Bd 40 (Zd z z):=X6
  cases (j == 1 || j == 2)
  · exact Pn
  · exact Pm
theorem Pq {x:Nat} [h:Po 14 x]:Po 17 (Wu x):=by
  unfold Wu
  have i_:=D4 (x:=x)
  have j_:Po 16 (dbl (Wt x)):=i_
  cases Me x
  · exact Ti i_
  · exact (Dy:Po 17 (Zg (dbl (Wt x)) 4607182418800017408))
theorem Pv {x:Nat} [h:Po 14 x]:Bd 400 (GK x):=by
  have i_:=Pq (x:=x)
  have z_:Bd 20 (Wv x):=by unfold Wv;exact X6
  unfold GK
  cases feq x 0
  · cases decide (D3 x > 3)
    · exact Lt
    · have q_:Bd 400 (Gp (YO (D3 x - 4)) (Wv x)):=Lt
      exact bdN
  · exact (X6:Bd 400 x)
theorem Tz {h r:Int} (hr:ZM h=r):Po 14 (fdiv (Zd (dbl r) 4614256656552045848) 4656722014701092864):=by
  have i_:=Gw hr
  exact Dy
theorem MA {h r1:Int} {r2:Nat} (h1:ZM h=r1) (h2:Kw (fdiv (Zd (dbl r1) 4614256656552045848) 4656722014701092864)=r2):Bd 400 r2:=by
  subst h2
  have i_:=Tz h1
  exact Pv
theorem Ou {h r1:Int} {r2 r3:Nat} (h1:ZM h=r1) (h2:Kw (fdiv (Zd (dbl r1) 4614256656552045848) 4656722014701092864)=r2) (h3:QE (Zd 4670232813583204352 r2)=r3):floatToIntVal .f64 r3 .i64=some (f2i r3):=by
  have n:=ZS h1
  have t:=Tt (n:=r1.toNat) (by omega)
  have e:M4 r1.toNat=r3:=by
    unfold M4 Oi
    rw [Int.toNat_of_nonneg n.1,h2,h3]
  rw [e] at t
  rw [t,Tu t]
end Go.Sky
end
section
namespace Go.Sky
open Go Go.Eng Go.Proofs
def Q3 (h_:Int):Int :=
  let r1:=ZM h_
  let r2:=Kw (fdiv (Zd (dbl r1) 4614256656552045848) 4656722014701092864)
  let r3:=QE (Zd 4670232813583204352 r2)
  f2i r3
set_option maxRecDepth 100000 in
theorem Ub (h_:Int) (w:World) (hT:Ua w):Calls Tryz.prog 148 #[.int .i64 h_] w (Ret w (.int .i64 (Q3 h_))):=by
  exact Zk (vs:=[.i h_]) (w:=w) Tryz.func148 rfl Tryz.ntmps148 rfl (TC.sr (TL.r 1 [] [(2,.i 0)] {} (TL.nr (TL.r 1 [] [(3,.i h_)] {} (TL.c 4 (ZM h_) (fun r1=>.i r1) (fun w _=>Jr h_ w) {} (fun r1 hr1=>TL.r 3 [] [(5,.float .f64 (dbl r1))] {} (TL.v (sV (binOp .mul 215 (.float .f64 (dbl r1)) (.float .f64 4614256656552045848))) 6 (.float .f64 (Zd (dbl r1) 4614256656552045848)) (fun w hM=>Yi (by (try have i_:=Gw hr1);(try have b_:=MA hr1 hr2);exact fmS)) {} (TL.v (sV (binOp .quo 215 (.float .f64 (Zd (dbl r1) 4614256656552045848)) (.float .f64 4656722014701092864))) 7 (.float .f64 (fdiv (Zd (dbl r1) 4614256656552045848) 4656722014701092864)) (fun w hM=>Vr (by (try have i_:=Gw hr1);(try have b_:=MA hr1 hr2);exact fdS)) {} (TL.c 8 (Kw (fdiv (Zd (dbl r1) 4614256656552045848) 4656722014701092864)) (fun r2=>.float .f64 r2) (fun w hM=>M3 (fdiv (Zd (dbl r1) 4614256656552045848) 4656722014701092864) w (Tz hr1) (Pj _ _) (hT.sat hM)) {} (fun r2 hr2=>TL.v (sV (binOp .mul 215 (.float .f64 4670232813583204352) (.float .f64 r2))) 9 (.float .f64 (Zd 4670232813583204352 r2)) (fun w hM=>Yi (by (try have i_:=Gw hr1);(try have b_:=MA hr1 hr2);exact fmS)) {} (TL.c 10 (QE (Zd 4670232813583204352 r2)) (fun r3=>.float .f64 r3) (fun w _=>D5 (Zd 4670232813583204352 r2) w) {} (fun r3 hr3=>TL.v (sV (convert 215 3 (.float .f64 r3))) 11 (.i (f2i r3)) (fun w hM=>Dq Kr Kr (Ou hr1 hr2 hr3)) {} (TL.r 10 [] [(2,.i (f2i r3))] {} (TL.next rfl (TC.ret (TE.ret [] (.i (f2i r3)) {} (by unfold Q3;refine eS (fun z=>(.i z:Value)) ?_;subst hr1 hr2 hr3;exact rfl)))))))))))))))))
def Jc (h_:Int):Int :=
  let r1:=ZM h_
  let r2:=Q3 (w64 (r1 + 1024))
  r2
theorem D6 (h:Int):Q3 h=VK (h % 4096).toNat:=by
  unfold Q3
  simp only
  have n:=ZS (h:=h) rfl
  have t:=Tt (n:=(ZM h).toNat) (by omega)
  have e:M4 (ZM h).toNat=QE (Zd 4670232813583204352 (Kw (fdiv (Zd (dbl (ZM h)) 4614256656552045848) 4656722014701092864))):=by
    unfold M4 Oi
    rw [Int.toNat_of_nonneg n.1]
  rw [e] at t
  rw [Tu t,Ul]
theorem D7 (k:Nat):Q3 (k:Int)=sn k:=by rw [D6,show ((k:Int) % 4096).toNat=k % 4096 by omega];rfl
set_option maxRecDepth 100000 in
theorem Wi (h_:Int) (w:World) (hT:Ua w):Calls Tryz.prog 149 #[.int .i64 h_] w (Ret w (.int .i64 (Jc h_))):=by
  exact Zk (vs:=[.i h_]) (w:=w) Tryz.func149 rfl Tryz.ntmps149 rfl (TC.sr (TL.r 1 [] [(2,.i 0)] {} (TL.nr (TL.r 1 [] [(3,.i h_)] {} (TL.c 4 (ZM h_) (fun r1=>.i r1) (fun w _=>Jr h_ w) {} (fun r1 hr1=>TL.r 3 [] [(5,.i (w64 (r1 + 1024)))] {} (TL.c 6 (Q3 (w64 (r1 + 1024))) (fun r2=>.i r2) (fun w hM=>Ub (w64 (r1 + 1024)) w (hT.sat hM)) {} (fun r2 hr2=>TL.r 5 [] [(2,.i r2)] {} (TL.next rfl (TC.ret (TE.ret [] (.i r2) {} (by unfold Jc;refine eS (fun z=>(.i z:Value)) ?_;subst hr1 hr2;exact rfl))))))))))))
def Zx (h_:Int):P :=
  let r1:=Q3 h_
  let r2:=Jc h_
  (⟨r1,r2⟩:P)
theorem D8 (k:Nat):Jc (k:Int)=cs k:=by
  unfold Jc
  simp only
  rw [Ul,D6,Zm (by omega),show (((k:Int) % 4096 + 1024) % 4096).toNat=(k + 1024) % 4096 by omega];rfl
set_option maxRecDepth 100000 in
theorem K5 (h_:Int) (w:World) (hT:Ua w):Calls Tryz.prog 132 #[.int .i64 h_] w (Ret w (P.v (Zx h_))):=by
  exact Zk (vs:=[.i h_]) (w:=w) Tryz.func132 rfl Tryz.ntmps132 rfl (TC.sr (TL.nw 2 (fun b1=>.p0 b1) (fun b1=>Bk b1 (P.c P.zero) 36) (fun b1=>{}) (fun b1=>TL.nr (TL.r 1 [] [(3,.i h_)] {} (TL.c 4 (Q3 h_) (fun r1=>.i r1) (fun w hM=>Ub h_ w (hT.sat hM)) {} (fun r1 hr1=>TL.r 3 [] [(5,.i h_)] {} (TL.c 6 (Jc h_) (fun r2=>.i r2) (fun w hM=>Wi h_ w (hT.sat hM)) {} (fun r2 hr2=>TL.r 5 [] [(7,P.v (⟨r1,r2⟩:P))] {} (TL.s 0 (Bk b1 (P.c (⟨r1,r2⟩:P)) 36) (fun _=>{}) (TL.next rfl (TC.ret (TE.ret [0] (P.v (⟨r1,r2⟩:P)) {} (by unfold Zx;refine eS (fun z=>(P.v z:Value)) ?_;subst hr1 hr2;exact rfl)))))))))))))
def ZB (a:P) (b_:P):Int :=
  w64 ((w64 (a.Y * b_.X)) - (w64 (a.X * b_.Y)))
set_option maxRecDepth 100000 in
theorem JZ (a:P) (b_:P) (w:World):Calls Tryz.prog 133 #[P.v a,P.v b_] w (Ret w (.int .i64 (ZB a b_))):=by
  exact Zk (vs:=[P.v a,P.v b_]) (w:=w) Tryz.func133 rfl Tryz.ntmps133 rfl (TC.sr (TL.nw 2 (fun b1=>.p0 b1) (fun b1=>Bk b1 (P.c a) 36) (fun b1=>{}) (fun b1=>TL.nw 3 (fun b2=>.p0 b2) (fun b2=>Bk b2 (P.c b_) 36) (fun b2=>{}) (fun b2=>TL.r 3 [] [(4,.i 0)] {} (TL.nr (TL.r 12 [1,0,1,0] [(4,.i (w64 ((w64 (a.Y * b_.X)) - (w64 (a.X * b_.Y)))))] {} (TL.next rfl (TC.ret (TE.ret [] (.i (w64 ((w64 (a.Y * b_.X)) - (w64 (a.X * b_.Y))))) {} (by unfold ZB;refine eS (fun z=>(.i z:Value)) ?_;exact rfl))))))))))
def Xq (n:Int):Int:=if n < 0 then -((-n + 8192) / 16384) else (n + 8192) / 16384
theorem Ko {n:Int} (hb:-4611686018427387904 ≤ n ∧ n ≤ 4611686018427387904):-4611686018427387904 ≤ Xq n ∧ Xq n ≤ 4611686018427387904:=by
  unfold Xq;split <;> omega
theorem Np {n r:Int} (h:n < 0) (hr:r=Xq (0 - n)):0 - r=Xq n:=by
  rw [hr];unfold Xq
  rw [if_neg (by omega),if_pos h,show 0 - n=-n by omega];omega
theorem T0 {n:Int} (h:¬ n < 0):(n + 8192) / 16384=Xq n:=by unfold Xq;rw [if_neg h]
theorem Nq {n d:Int} (hd:d=16384) (h:¬ n < 0) (hb:-4611686018427387904 ≤ n ∧ n ≤ 4611686018427387904):w64 ((n + d / 2).tdiv d)=Xq n:=by
  subst hd
  rw [show (16384:Int) / 2=8192 from rfl,Int.tdiv_eq_ediv_of_nonneg (by omega),Zm (by omega)]
  exact T0 h
set_option maxRecDepth 100000 in
theorem Gx:∀ (fu_:Nat) (n:Int) (d:Int) (w:World) (_hM:Sat ⟨w,Xf []⟩ [] w) (_hd:d=16384) (_hb:-4611686018427387904 ≤ n ∧ n ≤ 4611686018427387904) (_hn:(0 - n).toNat < fu_),Calls Tryz.prog 147 #[.int .i64 n,.int .i64 d] w (QK (Γ:=Int) ⟨w,Xf []⟩ (fun g=>.int .i64 g) (fun g=>[.inr (X8 (g=Xq n))]))
  | 0,_,_,_,_,_,_,hn=>absurd hn (Nat.not_lt_zero _)
  | fu_ + 1,n,d,w,hM,hd,hb,hn=>by
    have ih:=Gx fu_
    refine Yu (w0:=⟨w,Xf []⟩) (vs:=[.i n,.i d]) hM Tryz.func147 rfl Tryz.ntmps147 rfl (TC.weak [(0,.i n),(1,.i d)] Kr (TC.sr (TL.run 1 [] [(0,.i n),(1,.i d)] rfl {} (TL.ns (TC.sr (TL.run 2 [] [(0,.i n),(1,.i d),(6,.b (decide (n < 0)))] rfl {} (TL.next rfl (TC.cond (decide (n < 0)) rfl Kr (fun h1=>?_) (fun h1=>?_)))))))))
    · refine TC.sr (TL.run 3 [] [(8,.i (w64 (0 - n))),(9,.i d)] rfl {} (TL.rw 8 (.i (w64 (0 - n))) (.i (0 - n)) Kr (int_eq (by have q0_:=(Z4 h1);have nb_:=Ko (n:=0 - n) (by omega);rw [Zm (x:=(0 - n)) (by omega)])) (TL.callM (Γ:=Int) (fun g=>.i g) (fun g=>[.inr (X8 (g=Xq (0 - n)))]) [] [] (some 10) (fun g=>[(10,.i g)]) (fun w hM=>ih (0 - n) d w hM.pass (by have q0_:=(Z4 h1);have nb_:=Ko (n:=0 - n) (by omega);exact sg) (by have q0_:=(Z4 h1);have nb_:=Ko (n:=0 - n) (by omega);exact sg) (by have q0_:=(Z4 h1);have nb_:=Ko (n:=0 - n) (by omega);exact sg)) Kr (fun g=>Kr) ?_)))
      rintro r_
      exact TL.conv [.inr (X8 (r_=Xq (0 - n)))] (fun _ hM=>hM) (TL.know (fun w hM=>hM.fact_at 0 rfl) (fun hp_angle_near=>TL.forget [] (.cons _ (List.Sublist.refl _)) (TL.run 6 [] [(4,.i (w64 (0 - r_)))] rfl {} (TL.rw 4 (.i (w64 (0 - r_))) (.i (0 - r_)) Kr (int_eq (by have q0_:=(Z4 h1);have nb_:=Ko (n:=0 - n) (by omega);rw [Zm (x:=(0 - r_)) (by omega)])) (TL.next rfl (TC.ret (TE.rt (TE.retM (.inl rfl) (0 - r_) [] (.i (0 - r_)) {} rfl (fun _ hM=>(hM.sub (sb 0)).fact (by have q0_:=(Z4 h1);have nb_:=Ko (n:=0 - n) (by omega);(try dsimp only);first | exact Np (by omega) hp_angle_near | exact Nq hd (by omega) hb))))))))))
    · exact TC.snr (TL.run 5 [] [(15,.i (w64 (n + (w64 (d.tdiv 2))))),(16,.i d)] rfl {} (TL.rw 15 (.i (w64 (n + (w64 (d.tdiv 2))))) (.i (n + (((d / 2))))) Kr (int_eq (by have q0_:=(Zo h1);have nb_:=Ko (n:=0 - n) (by omega);rw [VQ (a:=d) 2 (by omega),Zm (x:=((d / 2))) (by omega),Zm (x:=(n + (((d / 2))))) (by omega)])) (TL.val (sV (binOp .quo 3 (.i (n + (((d / 2))))) (.i d))) (some 17) (.i (w64 ((n + (((d / 2)))).tdiv d))) [(17,.i (w64 ((n + (((d / 2)))).tdiv d)))] (fun w hM=>MO (by have q0_:=(Zo h1);have nb_:=Ko (n:=0 - n) (by omega);exact sd)) Kr Kr (TL.run 7 [] [(4,.i (w64 ((n + (((d / 2)))).tdiv d)))] rfl {} (TL.rw 4 (.i (w64 ((n + (((d / 2)))).tdiv d))) (.i (w64 ((n + (((d / 2)))).tdiv d))) Kr (int_eq (by have q0_:=(Zo h1);have nb_:=Ko (n:=0 - n) (by omega);rw [])) (TL.next rfl (TC.ret (TE.retM (.inl rfl) (w64 ((n + (((d / 2)))).tdiv d)) [] (.i (w64 ((n + (((d / 2)))).tdiv d))) {} rfl (fun _ hM=>(hM.sub (sb 0)).fact (by have q0_:=(Zo h1);have nb_:=Ko (n:=0 - n) (by omega);(try dsimp only);first | exact Np (by omega) hp_angle_near | exact Nq hd (by omega) hb))))))))))
theorem Gy (n:Int) (d:Int) (w:World) (hM:Sat ⟨w,Xf []⟩ [] w) (hd:d=16384) (hb:-4611686018427387904 ≤ n ∧ n ≤ 4611686018427387904):Calls Tryz.prog 147 #[.int .i64 n,.int .i64 d] w (QK (Γ:=Int) ⟨w,Xf []⟩ (fun g=>.int .i64 g) (fun g=>[.inr (X8 (g=Xq n))])):=Gx ((0 - n).toNat + 1) n d w hM hd hb (Nat.lt_succ_self _)
end Go.Sky
end
section
namespace Go.Sky
open Go Go.Eng Go.Proofs
def JQ (x:Nat):Nat :=
  V6 x
set_option maxRecDepth 100000 in
theorem D9 (x:Nat) (w:World) (hx:Bd 60 x):Calls Tryz.prog 129 #[.float .f64 x] w (Ret w (.float .f64 (JQ x))):=by
  exact Zk (vs:=[.float .f64 x]) (w:=w) Tryz.func129 rfl Tryz.ntmps129 rfl (TC.sr (TL.r 1 [] [(2,.float .f64 0)] {} (TL.ns (TC.condT rfl Kr (TC.sr (TL.r 1 [] [(3,.float .f64 x)] {} (TL.v (callFunc 161 #[.float .f64 x]) 4 (.float .f64 (V6 x)) (fun w hM=>NW Tryz.func161 Kr Kr Kr Kr (by exact E5)) {} (TL.r 3 [] [(2,.float .f64 (V6 x))] {} (TL.next rfl (TC.ret (TE.rt (TE.ret [] (.float .f64 (V6 x)) {} (by unfold JQ;refine eS (fun z=>(.float .f64 z:Value)) ?_;exact rfl)))))))))))))
end Go.Sky
end
section
namespace Go.Sky
open Go Go.Eng
theorem Nr {e x r:Nat} [h:Bd e x] (hr:JQ x=r):Bd (e + 1) r:=by subst hr;exact bdF
theorem T8 {q r:Nat} {g:Int} (_h:Bd 46 q) (h1:JQ (fdiv (Zd q 4656722014701092864) 4614256656552045848)=r) (h2:f2i r=g):-1152921504606846976 ≤ g ∧ g ≤ 1152921504606846976:=by
  have i_:=Nr h1
  have j_:Bd 60 r:=X6
  obtain ⟨s,a,h3,_,h5⟩:=CZ (x:=r) (e:=60) (by decide)
  have:(2:Nat) ^ 60=1152921504606846976:=rfl
  rw [← h2,h5]
  split <;> omega
def ofF (v:P):Int × Int :=
  if v.X < -2000000 ∨ 2000000 < v.X ∨ v.Y < -2000000 ∨ 2000000 < v.Y then (0,4)
  else if v.X=0 ∧ v.Y=0 then (0,10)
  else (if cs (UJ v.X v.Y) * v.X - sn (UJ v.X v.Y) * v.Y ≤ v.Y * sn (UJ v.X v.Y + 1) - v.X * cs (UJ v.X v.Y + 1) then (UJ v.X v.Y:Int) else ((UJ v.X v.Y + 1) % 4096:Nat),0)
theorem XC {v:P} (h:((v.X == 0) && (v.Y == 0))=false):¬ (v.X=0 ∧ v.Y=0):=by
  rintro ⟨h1,h2⟩
  rw [h1,h2] at h;cases h
def KQ (v:P):Prop:=-2000000 ≤ v.X ∧ v.X ≤ 2000000 ∧ -2000000 ≤ v.Y ∧ v.Y ≤ 2000000
theorem YP {v:P} (h:((((decide (v.X < (-2000000))) || (decide (v.X > 2000000))) || (decide (v.Y < (-2000000)))) || (decide (v.Y > 2000000)))=false):KQ v:=by
  simp only [Bool.or_eq_false_iff,decide_eq_false_iff_not] at h
  unfold KQ;omega
theorem UK {v:P} (h:v.X < -2000000 ∨ 2000000 < v.X ∨ v.Y < -2000000 ∨ 2000000 < v.Y):0=(ofF v).1 ∧ 4=(ofF v).2:=by unfold ofF;rw [if_pos h];exact ⟨rfl,rfl⟩
theorem KX {v:P} (h:KQ v) (h0:v.X=0 ∧ v.Y=0):0=(ofF v).1 ∧ 10=(ofF v).2:=by
  obtain ⟨a1,a2,a3,a4⟩:=h
  unfold ofF;rw [if_neg (by omega),if_pos h0];exact ⟨rfl,rfl⟩
theorem KN {a b:Int} (ha:-16384 ≤ a ∧ a ≤ 16384) (hb:-2000000 ≤ b ∧ b ≤ 2000000):-32768000000 ≤ a * b ∧ a * b ≤ 32768000000:=by
  have h:(a * b).natAbs ≤ 16384 * 2000000:=by rw [Int.natAbs_mul];exact Nat.mul_le_mul (by omega) (by omega)
  omega
theorem Ns {h:Int} (hh:0 ≤ h):Zx h=⟨sn h.toNat,cs h.toNat⟩ ∧ Zx (h + 1)=⟨sn (h.toNat + 1),cs (h.toNat + 1)⟩:=by
  obtain ⟨k,rfl⟩:∃ k:Nat,h=k:=⟨h.toNat,by omega⟩
  unfold Zx
  simp only
  rw [show (k:Int) + 1=((k + 1:Nat):Int) by omega,D7,D8,D7,D8,Int.toNat_natCast]
  exact ⟨rfl,rfl⟩
theorem B5 {v:P} {h:Int} (hv:KQ v) (hh:0 ≤ h ∧ h < 4096):ZB (Zx h) v=cs h.toNat * v.X - sn h.toNat * v.Y ∧ ZB v (Zx (h + 1))=v.Y * sn (h.toNat + 1) - v.X * cs (h.toNat + 1) ∧
    w64 ((w64 ((Zx h).X * v.X)) + (w64 ((Zx h).Y * v.Y)))=sn h.toNat * v.X + cs h.toNat * v.Y:=by
  unfold KQ at hv
  rw [(Ns hh.1).1,(Ns hh.1).2]
  unfold ZB
  have a1:=KN (B2 h.toNat) ⟨hv.1,hv.2.1⟩
  have a2:=KN (B1 h.toNat) ⟨hv.1,hv.2.1⟩
  have a3:=KN (B2 h.toNat) hv.2.2
  have a4:=KN (B1 h.toNat) hv.2.2
  have a5:=KN (B2 (h.toNat + 1)) ⟨hv.1,hv.2.1⟩
  have a6:=KN (B1 (h.toNat + 1)) hv.2.2
  rw [Int.mul_comm _ v.X] at a5
  rw [Int.mul_comm _ v.Y] at a6
  simp only
  refine ⟨?_,?_,?_⟩
  · rw [Zm (x:=cs h.toNat * v.X) (by omega),Zm (x:=sn h.toNat * v.Y) (by omega),Zm (by omega)]
  · rw [Zm (x:=v.Y * sn (h.toNat + 1)) (by omega),Zm (x:=v.X * cs (h.toNat + 1)) (by omega),Zm (by omega)]
  · rw [Zm (x:=sn h.toNat * v.X) (by omega),Zm (x:=cs h.toNat * v.Y) (by omega),Zm (by omega)]
theorem Lu {v:P} {h:Int} (hv:KQ v) (hh:0 ≤ h ∧ h < 4096):(((decide (ZB (Zx h) v ≥ 0)) && (decide (ZB v (Zx (h + 1)) > 0))) && (decide ((w64 ((w64 ((Zx h).X * v.X)) + (w64 ((Zx h).Y * v.Y)))) > 0)))=true ↔ Sec h.toNat v.X v.Y:=by
  obtain ⟨e1,e2,e3⟩:=B5 hv hh
  rw [e1,e2,e3,Bool.and_eq_true,Bool.and_eq_true,decide_eq_true_eq,decide_eq_true_eq,decide_eq_true_eq]
  unfold Sec
  exact and_assoc
theorem T9 {v:P} {h:Int} (hv:KQ v) (h0:¬ (v.X=0 ∧ v.Y=0)) (hh:0 ≤ h ∧ h < 4096) (c:(((decide (ZB (Zx h) v ≥ 0)) && (decide (ZB v (Zx (h + 1)) > 0))) && (decide ((w64 ((w64 ((Zx h).X * v.X)) + (w64 ((Zx h).Y * v.Y)))) > 0)))=true) :
    ofF v=(if ZB (Zx h) v ≤ ZB v (Zx (h + 1)) then h else ZM (h + 1),0):=by
  have hs:=Pi (by omega) ((Lu hv hh).1 c)
  obtain ⟨e1,e2,_⟩:=B5 hv hh
  unfold KQ at hv
  unfold ofF
  rw [if_neg (by omega),if_neg h0,hs,e1,e2,Ul]
  generalize cs h.toNat * v.X - sn h.toNat * v.Y=a
  generalize v.Y * sn (h.toNat + 1) - v.X * cs (h.toNat + 1)=b
  by_cases d:a ≤ b
  · rw [if_pos d,if_pos d,Int.toNat_of_nonneg hh.1]
  · rw [if_neg d,if_neg d,show (((h.toNat + 1) % 4096:Nat):Int)=(h + 1) % 4096 by omega]
theorem EA {v:P} {h:Int} (hv:KQ v) (h0:¬ (v.X=0 ∧ v.Y=0)) (hh:0 ≤ h ∧ h < 4096) (c:(((decide (ZB (Zx h) v ≥ 0)) && (decide (ZB v (Zx (h + 1)) > 0))) && (decide ((w64 ((w64 ((Zx h).X * v.X)) + (w64 ((Zx h).Y * v.Y)))) > 0)))=true)
    (d:decide (ZB (Zx h) v ≤ ZB v (Zx (h + 1)))=true):h=(ofF v).1 ∧ 0=(ofF v).2:=by
  rw [T9 hv h0 hh c,if_pos (of_decide_eq_true d)];exact ⟨rfl,rfl⟩
theorem EB {v:P} {h:Int} (hv:KQ v) (h0:¬ (v.X=0 ∧ v.Y=0)) (hh:0 ≤ h ∧ h < 4096) (c:(((decide (ZB (Zx h) v ≥ 0)) && (decide (ZB v (Zx (h + 1)) > 0))) && (decide ((w64 ((w64 ((Zx h).X * v.X)) + (w64 ((Zx h).Y * v.Y)))) > 0)))=true)
    (d:decide (ZB (Zx h) v ≤ ZB v (Zx (h + 1)))=false):ZM (h + 1)=(ofF v).1 ∧ 0=(ofF v).2:=by
  rw [T9 hv h0 hh c,if_neg (of_decide_eq_false d)];exact ⟨rfl,rfl⟩
def HU (g:Int) (j:Nat):Nat:=((if j % 2=1 then g - j else g + j) % 4096).toNat
def KY (v:P) (g s:Int):Prop:=(0 ≤ s ∧ s ≤ 4096) ∧ ∀ j:Nat,(j:Int) < s → ¬ Sec (HU g j) v.X v.Y
theorem Lx {v:P} {g s h:Int} (hv:KQ v) (hi:KY v g s) (hs:s < 4096) (hh:(HU g s.toNat:Int)=h) (c:(((decide (ZB (Zx h) v ≥ 0)) && (decide (ZB v (Zx (h + 1)) > 0))) && (decide ((w64 ((w64 ((Zx h).X * v.X)) + (w64 ((Zx h).Y * v.Y)))) > 0)))=false) :
    KY v g (s + 1):=by
  unfold KY at hi ⊢
  refine ⟨by omega,fun j hj=>?_⟩
  by_cases hjs:(j:Int) < s
  · exact hi.2 j hjs
  · intro hx
    have e:s.toNat=j:=by omega
    rw [e] at hh
    have l:HU g j < 4096:=by unfold HU;omega
    rw [(Lu hv (by omega)).2 (by rw [← hh,Int.toNat_natCast];exact hx)] at c
    cases c
theorem Ov {v:P} {g s:Int} (hv:KQ v) (hi:KY v g s) (hs:s < 4096) (ho:(s.tmod 2 == 1)=true) (c:(((decide (ZB (Zx (ZM (g - s))) v ≥ 0)) && (decide (ZB v (Zx (ZM (g - s) + 1)) > 0))) && (decide ((w64 ((w64 ((Zx (ZM (g - s))).X * v.X)) + (w64 ((Zx (ZM (g - s))).Y * v.Y)))) > 0)))=false) :
    KY v g (s + 1):=by
  have o:=beq_iff_eq.1 ho
  rw [Int.tmod_eq_emod_of_nonneg hi.1.1] at o
  have:=hi.1.1
  refine Lx hv hi hs ?_ c
  rw [Ul];unfold HU
  rw [if_pos (by omega)];omega
theorem Ox {v:P} {g s:Int} (hv:KQ v) (hi:KY v g s) (hs:s < 4096) (ho:(s.tmod 2 == 1)=false) (c:(((decide (ZB (Zx (ZM (g + s))) v ≥ 0)) && (decide (ZB v (Zx (ZM (g + s) + 1)) > 0))) && (decide ((w64 ((w64 ((Zx (ZM (g + s))).X * v.X)) + (w64 ((Zx (ZM (g + s))).Y * v.Y)))) > 0)))=false) :
    KY v g (s + 1):=by
  have o:=beq_eq_false_iff_ne.1 ho
  rw [Int.tmod_eq_emod_of_nonneg hi.1.1] at o
  have:=hi.1.1
  refine Lx hv hi hs ?_ c
  rw [Ul];unfold HU
  rw [if_neg (by omega)];omega
theorem KZ {v u w:P} {g h a b:Int} (hv:KQ v) (h0:¬ (v.X=0 ∧ v.Y=0)) (hn:ZM g=h) (hu:Zx h=u) (hw:Zx (h + 1)=w) (ha:ZB u v=a) (hb:ZB v w=b) (c:(((decide (a ≥ 0)) && (decide (b > 0))) && (decide ((w64 ((w64 (u.X * v.X)) + (w64 (u.Y * v.Y)))) > 0)))=true) (d:decide (a ≤ b)=true):h=(ofF v).1 ∧ 0=(ofF v).2:=by
  subst hu hw ha hb;exact EA hv h0 (ZS hn) c d
theorem Va {v u w:P} {g h a b r:Int} (hv:KQ v) (h0:¬ (v.X=0 ∧ v.Y=0)) (hn:ZM g=h) (hu:Zx h=u) (hw:Zx (h + 1)=w) (ha:ZB u v=a) (hb:ZB v w=b) (c:(((decide (a ≥ 0)) && (decide (b > 0))) && (decide ((w64 ((w64 (u.X * v.X)) + (w64 (u.Y * v.Y)))) > 0)))=true) (d:decide (a ≤ b)=false) (hr:ZM (h + 1)=r):r=(ofF v).1 ∧ 0=(ofF v).2:=by
  subst hu hw ha hb hr;exact EB hv h0 (ZS hn) c d
theorem PN {v u w:P} {g s h a b:Int} (hv:KQ v) (hi:KY v g s) (hs:s < 4096) (ho:(s.tmod 2 == 1)=true) (hn:ZM (g - s)=h) (hu:Zx h=u) (hw:Zx (h + 1)=w) (ha:ZB u v=a) (hb:ZB v w=b) (c:(((decide (a ≥ 0)) && (decide (b > 0))) && (decide ((w64 ((w64 (u.X * v.X)) + (w64 (u.Y * v.Y)))) > 0)))=false):KY v g (s + 1):=by
  subst hn;subst hu hw ha hb;exact Ov hv hi hs ho c
theorem PO {v u w:P} {g s h a b:Int} (hv:KQ v) (hi:KY v g s) (hs:s < 4096) (ho:(s.tmod 2 == 1)=false) (hn:ZM (g + s)=h) (hu:Zx h=u) (hw:Zx (h + 1)=w) (ha:ZB u v=a) (hb:ZB v w=b) (c:(((decide (a ≥ 0)) && (decide (b > 0))) && (decide ((w64 ((w64 (u.X * v.X)) + (w64 (u.Y * v.Y)))) > 0)))=false):KY v g (s + 1):=by
  subst hn;subst hu hw ha hb;exact Ox hv hi hs ho c
theorem TA (v:P) (g:Int):KY v g 0:=⟨by omega,fun j hj=>by omega⟩
theorem Oy {v:P} {g s:Int} (h0:¬ (v.X=0 ∧ v.Y=0)) (hi:KY v g s) (hs:¬ s < 4096):False:=by
  obtain ⟨h1,h2⟩:=W7 h0
  generalize UJ v.X v.Y=K at *
  obtain ⟨e,he⟩:∃ e:Nat,((K:Int) - g) % 4096=e:=⟨(((K:Int) - g) % 4096).toNat,by omega⟩
  by_cases ho:e % 2=1
  · refine hi.2 (4096 - e) (by omega) ?_
    have:HU g (4096 - e)=K:=by unfold HU;rw [if_pos (by omega)];omega
    rw [this];exact h2
  · refine hi.2 e (by omega) ?_
    have:HU g e=K:=by unfold HU;rw [if_neg ho];omega
    rw [this];exact h2
end Go.Sky
end
section
namespace Go.Sky
open Go Go.Eng Go.Proofs
set_option maxHeartbeats 4000000 in
set_option maxRecDepth 100000 in
theorem MB (v:P) (w:World) (hM:Sat ⟨w,Xf []⟩ [] w) (hT:Ua w):Calls Tryz.prog 72 #[P.v v] w (QK (Γ:=Int × Int) ⟨w,Xf []⟩ (fun g=>.tuple #[.int .i64 g.1,.int .i64 g.2]) (fun g=>[.inr (X8 (g.1=(ofF v).1 ∧ g.2=(ofF v).2))])):=by
  refine Yu (w0:=⟨w,Xf []⟩) (vs:=[P.v v]) hM Tryz.func72 rfl Tryz.ntmps72 rfl (TC.weak [(0,P.v v)] Kr (TC.sr (TL.write 0 (fun b1=>[(1,.p0 b1)]) (fun b1=>[Bk b1 (P.c v) 36]) (fun b1=>{}) (fun b1=>TL.run 3 [] [(1,.p0 b1)] rfl {} (TL.ns (TC.block (TC.sr (TL.run 4 [0] [(1,.p0 b1),(15,.b (decide (v.X < (-2000000))))] rfl {} (TL.join 15 (decide (v.X < (-2000000))) 8 [] [0] (fun β=>[(1,.p0 b1),(19,.b (β || (decide (v.X > 2000000))))]) Kr rfl {} {} (TL.run 9 [] [(1,.p0 b1),(20,.b ((decide (v.X < (-2000000))) || (decide (v.X > 2000000))))] rfl {} (TL.join 20 ((decide (v.X < (-2000000))) || (decide (v.X > 2000000))) 13 [] [0] (fun β=>[(1,.p0 b1),(24,.b (β || (decide (v.Y < (-2000000)))))]) Kr rfl {} {} (TL.run 14 [] [(1,.p0 b1),(25,.b (((decide (v.X < (-2000000))) || (decide (v.X > 2000000))) || (decide (v.Y < (-2000000)))))] rfl {} (TL.join 25 (((decide (v.X < (-2000000))) || (decide (v.X > 2000000))) || (decide (v.Y < (-2000000)))) 18 [] [0] (fun β=>[(1,.p0 b1),(29,.b (β || (decide (v.Y > 2000000))))]) Kr rfl {} {} (TL.run 19 [] [(1,.p0 b1),(11,.b ((((decide (v.X < (-2000000))) || (decide (v.X > 2000000))) || (decide (v.Y < (-2000000)))) || (decide (v.Y > 2000000))))] rfl {} (TL.next rfl (TC.cond ((((decide (v.X < (-2000000))) || (decide (v.X > 2000000))) || (decide (v.Y < (-2000000)))) || (decide (v.Y > 2000000))) rfl Kr (fun h1=>?_) (fun h1=>?_)))))))))))))))))
  · refine TC.sr (TL.run 2 [] [(2,.i 0),(3,.i 4)] rfl {} (TL.next rfl (TC.ret (TE.rb (TE.rt ?_)))))
    exact TE.retM (.inl rfl) (0,4) [] (.tuple #[.i 0,.i 4]) {} rfl (fun _ hM=>(hM.sub (sb 0)).fact (by have q0_:=((Vx h1).imp (fun h=>((Vx h).imp (fun h=>((Vx h).imp (fun h=>(Z4 h)) (fun h=>(Z4 h)))) (fun h=>(Z4 h)))) (fun h=>(Z4 h)));(try have bq_:=hp_math_Atan2);(try have n3_:=ZS hr3);(try have n4_:=ZS hr4);(try dsimp only);first | exact UK (by omega) | exact KX (YP h1) (by omega) | exact Va (YP h1) (XC h2) hr4 hr5 hr6 hr7 hr8 h5 h6 hr9 | exact Va (YP h1) (XC h2) hr3 hr10 hr11 hr12 hr13 h7 h8 hr14 | exact KZ (YP h1) (XC h2) hr4 hr5 hr6 hr7 hr8 h5 h6 | exact KZ (YP h1) (XC h2) hr3 hr10 hr11 hr12 hr13 h7 h8 | exact False.elim ho0))
  · refine TC.sr (TL.run 4 [0] [(1,.p0 b1),(34,.b (v.X == 0))] rfl {} (TL.join 34 (v.X == 0) 8 [0] [] (fun β=>[(1,.p0 b1),(38,.b (β && (v.Y == 0)))]) Kr rfl {} {} (TL.run 9 [] [(1,.p0 b1),(30,.b ((v.X == 0) && (v.Y == 0)))] rfl {} (TL.next rfl (TC.cond ((v.X == 0) && (v.Y == 0)) rfl Kr (fun h2=>?_) (fun h2=>?_))))))
    · refine TC.sr (TL.run 2 [] [(2,.i 0),(3,.i 10)] rfl {} (TL.next rfl (TC.ret (TE.rb (TE.rt ?_)))))
      exact TE.retM (.inl rfl) (0,10) [] (.tuple #[.i 0,.i 10]) {} rfl (fun _ hM=>(hM.sub (sb 0)).fact (by have q0_:=(Zo (Zt (Zt (Zt h1))));have q1_:=(Zo (ZR (Zt (Zt h1))));have q2_:=(Zo (ZR (Zt h1)));have q3_:=(Zo (ZR h1));have q4_:=(Yx (Qi h2));have q5_:=(Yx (QO h2));(try have bq_:=hp_math_Atan2);(try have n3_:=ZS hr3);(try have n4_:=ZS hr4);(try dsimp only);first | exact UK (by omega) | exact KX (YP h1) (by omega) | exact Va (YP h1) (XC h2) hr4 hr5 hr6 hr7 hr8 h5 h6 hr9 | exact Va (YP h1) (XC h2) hr3 hr10 hr11 hr12 hr13 h7 h8 hr14 | exact KZ (YP h1) (XC h2) hr4 hr5 hr6 hr7 hr8 h5 h6 | exact KZ (YP h1) (XC h2) hr3 hr10 hr11 hr12 hr13 h7 h8 | exact False.elim ho0))
    · refine TC.skip (TE.nb (TE.nr (TL.run 6 [0,0] [(1,.p0 b1),(41,.float .f64 (dbl v.X)),(44,.float .f64 (dbl v.Y))] rfl {} (TL.callM (Γ:=Nat) (fun g=>.float .f64 g) (fun g=>[.inr (X8 (Bd 46 g))]) [] [Bk b1 (P.c v) 36] (some 45) (fun g=>[(1,.p0 b1),(45,.float .f64 g)]) (fun w hM=>D2 (dbl v.X) (dbl v.Y) w hM.pass (by have q0_:=(Zo (Zt (Zt (Zt h1))));have q1_:=(Zo (ZR (Zt (Zt h1))));have q2_:=(Zo (ZR (Zt h1)));have q3_:=(Zo (ZR h1));have q4_:=((Xw h2).imp (fun h=>(ZN h)) (fun h=>(ZN h)));(try have bq_:=hp_math_Atan2);(try have n3_:=ZS hr3);(try have n4_:=ZS hr4);exact ⟨v.X,by omega,rfl⟩) (by have q0_:=(Zo (Zt (Zt (Zt h1))));have q1_:=(Zo (ZR (Zt (Zt h1))));have q2_:=(Zo (ZR (Zt h1)));have q3_:=(Zo (ZR h1));have q4_:=((Xw h2).imp (fun h=>(ZN h)) (fun h=>(ZN h)));(try have bq_:=hp_math_Atan2);(try have n3_:=ZS hr3);(try have n4_:=ZS hr4);exact ⟨v.Y,by omega,rfl⟩)) Kr (fun g=>Kr) ?_))))
      rintro r_
      refine TL.conv [.inr (X8 (Bd 46 r_)),Bk b1 (P.c v) 36] (fun _ hM=>hM) (TL.know (fun w hM=>hM.fact_at 0 rfl) (fun hp_math_Atan2=>TL.forget [Bk b1 (P.c v) 36] (.cons _ (List.Sublist.refl _)) (TL.val (sV (binOp .mul 215 (.float .f64 r_) (.float .f64 4656722014701092864))) (some 46) (.float .f64 (Zd r_ 4656722014701092864)) [(1,.p0 b1),(46,.float .f64 (Zd r_ 4656722014701092864))] (fun w hM=>Yi (by have q0_:=(Zo (Zt (Zt (Zt h1))));have q1_:=(Zo (ZR (Zt (Zt h1))));have q2_:=(Zo (ZR (Zt h1)));have q3_:=(Zo (ZR h1));have q4_:=((Xw h2).imp (fun h=>(ZN h)) (fun h=>(ZN h)));(try have bq_:=hp_math_Atan2);(try have n3_:=ZS hr3);(try have n4_:=ZS hr4);exact fmS)) Kr Kr (TL.val (sV (binOp .quo 215 (.float .f64 (Zd r_ 4656722014701092864)) (.float .f64 4614256656552045848))) (some 47) (.float .f64 (fdiv (Zd r_ 4656722014701092864) 4614256656552045848)) [(1,.p0 b1),(47,.float .f64 (fdiv (Zd r_ 4656722014701092864) 4614256656552045848))] (fun w hM=>Vr (by have q0_:=(Zo (Zt (Zt (Zt h1))));have q1_:=(Zo (ZR (Zt (Zt h1))));have q2_:=(Zo (ZR (Zt h1)));have q3_:=(Zo (ZR h1));have q4_:=((Xw h2).imp (fun h=>(ZN h)) (fun h=>(ZN h)));(try have bq_:=hp_math_Atan2);(try have n3_:=ZS hr3);(try have n4_:=ZS hr4);exact fdS)) Kr Kr (TL.call (some 48) [(1,.p0 b1),(48,.float .f64 (JQ (fdiv (Zd r_ 4656722014701092864) 4614256656552045848)))] (fun w _=>D9 (fdiv (Zd r_ 4656722014701092864) 4614256656552045848) w (by have q0_:=(Zo (Zt (Zt (Zt h1))));have q1_:=(Zo (ZR (Zt (Zt h1))));have q2_:=(Zo (ZR (Zt h1)));have q3_:=(Zo (ZR h1));have q4_:=((Xw h2).imp (fun h=>(ZN h)) (fun h=>(ZN h)));(try have bq_:=hp_math_Atan2);(try have n3_:=ZS hr3);(try have n4_:=ZS hr4);exact X6)) Kr Kr ?_)))))
      generalize hr1:JQ (fdiv (Zd r_ 4656722014701092864) 4614256656552045848)=r1
      refine TL.val (sV (convert 215 3 (.float .f64 r1))) (some 49) (.i (f2i r1)) [(1,.p0 b1),(49,.i (f2i r1))] (fun w hM=>Dq Kr Kr (by have q0_:=(Zo (Zt (Zt (Zt h1))));have q1_:=(Zo (ZR (Zt (Zt h1))));have q2_:=(Zo (ZR (Zt h1)));have q3_:=(Zo (ZR h1));have q4_:=((Xw h2).imp (fun h=>(ZN h)) (fun h=>(ZN h)));(try have bq_:=hp_math_Atan2);(try have n3_:=ZS hr3);(try have n4_:=ZS hr4);have b_:=Nr hr1;exact SL (e:=58))) Kr Kr (TL.run 12 [] [(1,.p0 b1),(4,.i (f2i r1))] rfl {} ?_)
      generalize hr2:f2i r1=r2
      have g_:=T8 hp_math_Atan2 hr1 hr2;clear hr1 hr2 hp_math_Atan2
      refine TL.ns (TC.sr (TL.run 1 [] [(1,.p0 b1),(4,.i r2),(50,.i 0)] rfl {} (TL.next rfl (TC.weak [(1,.p0 b1),(4,.i r2),(50,.i 0)] Kr (TC.cut (S:=Unit) (fun (_:Unit)=>[]) (fun (_:Unit)=>[Bk b1 (P.c v) 36]) (fun (_:Unit)=>(False)) ?_ ?_)))))
      · refine TC.block (TC.loop (X:=Int) (fun s=>[(1,.p0 b1),(4,.i r2),(50,.i s)]) (fun s=>[Bk b1 (P.c v) 36]) (fun s=>(4096 - s).toNat) (fun s=>(KY v r2 s)) ?_ 0 (by have q0_:=(Zo (Zt (Zt (Zt h1))));have q1_:=(Zo (ZR (Zt (Zt h1))));have q2_:=(Zo (ZR (Zt h1)));have q3_:=(Zo (ZR h1));have q4_:=((Xw h2).imp (fun h=>(ZN h)) (fun h=>(ZN h)));(try have bq_:=hp_math_Atan2);(try have n3_:=ZS hr3);(try have n4_:=ZS hr4);first | exact TA _ _))
        rintro s hv0
        refine TC.sr (TL.run 1 [] [(1,.p0 b1),(4,.i r2),(50,.i s),(51,.b (decide (s < 4096)))] rfl {} (TL.ns (TC.cond (decide (s < 4096)) rfl Kr (fun h3=>?_) (fun h3=>?_))))
        · refine TC.sn (TC.seq (TC.block (TC.sr (TL.run 2 [] [(1,.p0 b1),(4,.i r2),(5,.i s),(50,.i s)] rfl {} (TL.nr (TL.run 3 [] [(1,.p0 b1),(4,.i r2),(5,.i s),(50,.i s),(55,.i (w64 (r2 + s)))] rfl {} (TL.rw 55 (.i (w64 (r2 + s))) (.i (r2 + s)) Kr (int_eq (by have q0_:=(Zo (Zt (Zt (Zt h1))));have q1_:=(Zo (ZR (Zt (Zt h1))));have q2_:=(Zo (ZR (Zt h1)));have q3_:=(Zo (ZR h1));have q4_:=((Xw h2).imp (fun h=>(ZN h)) (fun h=>(ZN h)));have q5_:=(Z4 h3);(try have bq_:=hp_math_Atan2);(try have n3_:=ZS hr3);(try have n4_:=ZS hr4);have hv0_:=hv0.1;rw [Zm (x:=(r2 + s)) (by omega)])) (TL.call (some 56) [(1,.p0 b1),(4,.i r2),(5,.i s),(50,.i s),(56,.i (ZM (r2 + s)))] (fun w _=>Jr (r2 + s) w) Kr Kr ?_))))))))
          generalize hr3:ZM (r2 + s)=r3
          refine TL.run 5 [] [(1,.p0 b1),(4,.i r2),(5,.i s),(6,.i r3),(50,.i s)] rfl {} (TL.ns (TC.sr (TL.run 3 [] [(1,.p0 b1),(4,.i r2),(5,.i s),(6,.i r3),(50,.i s),(59,.b ((s.tmod 2) == 1))] rfl {} (TL.next rfl (TC.cond ((s.tmod 2) == 1) rfl Kr (fun h4=>?_) (fun h4=>?_))))))
          · refine TC.region (TL.run 3 [] [(1,.p0 b1),(4,.i r2),(50,.i s),(62,.i (w64 (r2 - s)))] rfl {} (TL.rw 62 (.i (w64 (r2 - s))) (.i (r2 - s)) Kr (int_eq (by have q0_:=(Zo (Zt (Zt (Zt h1))));have q1_:=(Zo (ZR (Zt (Zt h1))));have q2_:=(Zo (ZR (Zt h1)));have q3_:=(Zo (ZR h1));have q4_:=((Xw h2).imp (fun h=>(ZN h)) (fun h=>(ZN h)));have q5_:=(Z4 h3);have q6_:=(Yx h4);(try have bq_:=hp_math_Atan2);(try have n3_:=ZS hr3);(try have n4_:=ZS hr4);have hv0_:=hv0.1;rw [Zm (x:=(r2 - s)) (by omega)])) (TL.call (some 63) [(1,.p0 b1),(4,.i r2),(50,.i s),(63,.i (ZM (r2 - s)))] (fun w _=>Jr (r2 - s) w) Kr Kr ?_)))
            generalize hr4:ZM (r2 - s)=r4
            refine TL.run 5 [] [(1,.p0 b1),(4,.i r2),(6,.i r4),(50,.i s)] rfl {} (TL.nr (TL.run 1 [] [(1,.p0 b1),(4,.i r2),(6,.i r4),(50,.i s),(64,.i r4)] rfl {} (TL.call (some 65) [(1,.p0 b1),(4,.i r2),(6,.i r4),(50,.i s),(65,P.v (Zx r4))] (fun w hM=>K5 r4 w (hT.sat hM)) Kr Kr ?_)))
            generalize hr5:Zx r4=r5
            refine TL.run 4 [] [(1,.p0 b1),(4,.i r2),(6,.i r4),(50,.i s),(65,P.v r5),(67,.i (w64 (r4 + 1)))] rfl {} (TL.rw 67 (.i (w64 (r4 + 1))) (.i (r4 + 1)) Kr (int_eq (by have q0_:=(Zo (Zt (Zt (Zt h1))));have q1_:=(Zo (ZR (Zt (Zt h1))));have q2_:=(Zo (ZR (Zt h1)));have q3_:=(Zo (ZR h1));have q4_:=((Xw h2).imp (fun h=>(ZN h)) (fun h=>(ZN h)));have q5_:=(Z4 h3);have q6_:=(Yx h4);(try have bq_:=hp_math_Atan2);(try have n3_:=ZS hr3);(try have n4_:=ZS hr4);have hv0_:=hv0.1;rw [Zm (x:=(r4 + 1)) (by omega)])) (TL.call (some 68) [(1,.p0 b1),(4,.i r2),(6,.i r4),(50,.i s),(65,P.v r5),(68,P.v (Zx (r4 + 1)))] (fun w hM=>K5 (r4 + 1) w (hT.sat hM)) Kr Kr ?_))
            generalize hr6:Zx (r4 + 1)=r6
            refine TL.write 0 (fun b2=>[(1,.p0 b1),(4,.i r2),(6,.i r4),(7,.p0 b2),(50,.i s),(65,P.v r5),(68,P.v r6)]) (fun b2=>[Bk b2 (P.c P.zero) 36,Bk b1 (P.c v) 36]) (fun b2=>{}) (fun b2=>TL.write 0 (fun b3=>[(1,.p0 b1),(4,.i r2),(6,.i r4),(7,.p0 b2),(8,.p0 b3),(50,.i s),(65,P.v r5),(68,P.v r6)]) (fun b3=>[Bk b3 (P.c P.zero) 36,Bk b2 (P.c P.zero) 36,Bk b1 (P.c v) 36]) (fun b3=>{}) (fun b3=>TL.write 1 (fun _=>[(1,.p0 b1),(4,.i r2),(6,.i r4),(7,.p0 b2),(8,.p0 b3),(50,.i s),(68,P.v r6)]) (fun _=>[Bk b3 (P.c P.zero) 36,Bk b2 (P.c r5) 36,Bk b1 (P.c v) 36]) (fun _=>{}) (fun _=>TL.write 0 (fun _=>[(1,.p0 b1),(4,.i r2),(6,.i r4),(7,.p0 b2),(8,.p0 b3),(50,.i s)]) (fun _=>[Bk b3 (P.c r6) 36,Bk b2 (P.c r5) 36,Bk b1 (P.c v) 36]) (fun _=>{}) (fun _=>TL.ns (TC.draw 8 Kr Kr Kr (TQ.run 2 [1,2] [(1,.p0 b1),(4,.i r2),(6,.i r4),(7,.p0 b2),(8,.p0 b3),(50,.i s),(69,P.v r5),(70,P.v v)] rfl {} (TQ.call (some 71) [(1,.p0 b1),(4,.i r2),(6,.i r4),(7,.p0 b2),(8,.p0 b3),(50,.i s),(71,.i (ZB r5 v))] (fun w _=>JZ r5 v w) rfl Kr Kr ?_)))))))
            generalize hr7:ZB r5 v=r7
            refine TQ.run 5 [2,0] [(1,.p0 b1),(4,.i r2),(6,.i r4),(7,.p0 b2),(50,.i s),(71,.i r7),(72,P.v v),(73,P.v r6)] rfl {} (TQ.call (some 74) [(1,.p0 b1),(4,.i r2),(6,.i r4),(7,.p0 b2),(50,.i s),(71,.i r7),(74,.i (ZB v r6))] (fun w _=>JZ v r6 w) rfl Kr Kr ?_)
            generalize hr8:ZB v r6=r8
            refine TQ.run 8 [] [(1,.p0 b1),(4,.i r2),(6,.i r4),(7,.p0 b2),(9,.i r7),(10,.i r8),(50,.i s)] rfl {} (TQ.next rfl (TC.sr (TL.run 3 [] [(1,.p0 b1),(4,.i r2),(6,.i r4),(7,.p0 b2),(9,.i r7),(10,.i r8),(50,.i s),(77,.b (decide (r7 ≥ 0)))] rfl {} (TL.join 77 (decide (r7 ≥ 0)) 6 [] [] (fun β=>[(1,.p0 b1),(4,.i r2),(6,.i r4),(7,.p0 b2),(9,.i r7),(10,.i r8),(50,.i s),(80,.b (β && (decide (r8 > 0))))]) Kr rfl {} {} (TL.run 7 [] [(1,.p0 b1),(4,.i r2),(6,.i r4),(7,.p0 b2),(9,.i r7),(10,.i r8),(50,.i s),(81,.b ((decide (r7 ≥ 0)) && (decide (r8 > 0))))] rfl {} (TL.join 81 ((decide (r7 ≥ 0)) && (decide (r8 > 0))) 20 [1,2,1,2] [] (fun β=>[(1,.p0 b1),(4,.i r2),(6,.i r4),(9,.i r7),(10,.i r8),(50,.i s),(94,.b (β && (decide ((w64 ((w64 (r5.X * v.X)) + (w64 (r5.Y * v.Y)))) > 0))))]) Kr rfl {} {} (TL.next rfl (TC.cond (((decide (r7 ≥ 0)) && (decide (r8 > 0))) && (decide ((w64 ((w64 (r5.X * v.X)) + (w64 (r5.Y * v.Y)))) > 0))) rfl Kr (fun h5=>?_) (fun h5=>?_)))))))))
            · refine TC.seq (TC.sr (TL.run 3 [] [(6,.i r4),(97,.b (decide (r7 ≤ r8)))] rfl {} (TL.next rfl (TC.cond (decide (r7 ≤ r8)) rfl Kr (fun h6=>?_) (fun h6=>?_)))))
              · refine TC.sr (TL.run 3 [] [(2,.i r4),(3,.i 0)] rfl {} (TL.next rfl (TC.ret (TE.rt (TE.rb (TE.rt (TE.rt (TE.rb (TE.rt (TE.rt ?_))))))))))
                exact TE.retM (.inl rfl) (r4,0) [] (.tuple #[.i r4,.i 0]) {} rfl (fun _ hM=>(hM.sub (sb 0)).fact (by have q0_:=(Zo (Zt (Zt (Zt h1))));have q1_:=(Zo (ZR (Zt (Zt h1))));have q2_:=(Zo (ZR (Zt h1)));have q3_:=(Zo (ZR h1));have q4_:=((Xw h2).imp (fun h=>(ZN h)) (fun h=>(ZN h)));have q5_:=(Z4 h3);have q6_:=(Yx h4);have q7_:=(Z4 (Qi (Qi h5)));have q8_:=(Z4 (QO (Qi h5)));have q9_:=(Z4 (QO h5));have q10_:=(Z4 h6);(try have bq_:=hp_math_Atan2);(try have n3_:=ZS hr3);(try have n4_:=ZS hr4);have hv0_:=hv0.1;(try dsimp only);first | exact UK (by omega) | exact KX (YP h1) (by omega) | exact Va (YP h1) (XC h2) hr4 hr5 hr6 hr7 hr8 h5 h6 hr9 | exact Va (YP h1) (XC h2) hr3 hr10 hr11 hr12 hr13 h7 h8 hr14 | exact KZ (YP h1) (XC h2) hr4 hr5 hr6 hr7 hr8 h5 h6 | exact KZ (YP h1) (XC h2) hr3 hr10 hr11 hr12 hr13 h7 h8 | exact False.elim ho0))
              · refine TC.snr (TL.run 2 [] [(100,.i (w64 (r4 + 1)))] rfl {} (TL.rw 100 (.i (w64 (r4 + 1))) (.i (r4 + 1)) Kr (int_eq (by have q0_:=(Zo (Zt (Zt (Zt h1))));have q1_:=(Zo (ZR (Zt (Zt h1))));have q2_:=(Zo (ZR (Zt h1)));have q3_:=(Zo (ZR h1));have q4_:=((Xw h2).imp (fun h=>(ZN h)) (fun h=>(ZN h)));have q5_:=(Z4 h3);have q6_:=(Yx h4);have q7_:=(Z4 (Qi (Qi h5)));have q8_:=(Z4 (QO (Qi h5)));have q9_:=(Z4 (QO h5));have q10_:=(Zo h6);(try have bq_:=hp_math_Atan2);(try have n3_:=ZS hr3);(try have n4_:=ZS hr4);have hv0_:=hv0.1;rw [Zm (x:=(r4 + 1)) (by omega)])) (TL.call (some 101) [(101,.i (ZM (r4 + 1)))] (fun w _=>Jr (r4 + 1) w) Kr Kr ?_)))
                generalize hr9:ZM (r4 + 1)=r9
                refine TL.run 5 [] [(2,.i r9),(3,.i 0)] rfl {} (TL.next rfl (TC.ret (TE.rb (TE.rt (TE.rt (TE.rb (TE.rt (TE.rt ?_))))))))
                exact TE.retM (.inl rfl) (r9,0) [] (.tuple #[.i r9,.i 0]) {} rfl (fun _ hM=>(hM.sub (sb 0)).fact (by have q0_:=(Zo (Zt (Zt (Zt h1))));have q1_:=(Zo (ZR (Zt (Zt h1))));have q2_:=(Zo (ZR (Zt h1)));have q3_:=(Zo (ZR h1));have q4_:=((Xw h2).imp (fun h=>(ZN h)) (fun h=>(ZN h)));have q5_:=(Z4 h3);have q6_:=(Yx h4);have q7_:=(Z4 (Qi (Qi h5)));have q8_:=(Z4 (QO (Qi h5)));have q9_:=(Z4 (QO h5));have q10_:=(Zo h6);(try have bq_:=hp_math_Atan2);(try have n3_:=ZS hr3);(try have n4_:=ZS hr4);have hv0_:=hv0.1;(try dsimp only);first | exact UK (by omega) | exact KX (YP h1) (by omega) | exact Va (YP h1) (XC h2) hr4 hr5 hr6 hr7 hr8 h5 h6 hr9 | exact Va (YP h1) (XC h2) hr3 hr10 hr11 hr12 hr13 h7 h8 hr14 | exact KZ (YP h1) (XC h2) hr4 hr5 hr6 hr7 hr8 h5 h6 | exact KZ (YP h1) (XC h2) hr3 hr10 hr11 hr12 hr13 h7 h8 | exact False.elim ho0))
            · exact TC.skip (TE.nb (TE.next (TC.region (TL.run 2 [] [(1,.p0 b1),(4,.i r2),(50,.i (w64 (s + 1)))] rfl {} (TL.rw 50 (.i (w64 (s + 1))) (.i (s + 1)) Kr (int_eq (by have q0_:=(Zo (Zt (Zt (Zt h1))));have q1_:=(Zo (ZR (Zt (Zt h1))));have q2_:=(Zo (ZR (Zt h1)));have q3_:=(Zo (ZR h1));have q4_:=((Xw h2).imp (fun h=>(ZN h)) (fun h=>(ZN h)));have q5_:=(Z4 h3);have q6_:=(Yx h4);have q7_:=((Xw h5).imp (fun h=>((Xw h).imp (fun h=>(Zo h)) (fun h=>(Zo h)))) (fun h=>(Zo h)));(try have bq_:=hp_math_Atan2);(try have n3_:=ZS hr3);(try have n4_:=ZS hr4);have hv0_:=hv0.1;rw [Zm (x:=(s + 1)) (by omega)])) (TL.done rfl (TE.again (x:=s) (s + 1) (by have q0_:=(Zo (Zt (Zt (Zt h1))));have q1_:=(Zo (ZR (Zt (Zt h1))));have q2_:=(Zo (ZR (Zt h1)));have q3_:=(Zo (ZR h1));have q4_:=((Xw h2).imp (fun h=>(ZN h)) (fun h=>(ZN h)));have q5_:=(Z4 h3);have q6_:=(Yx h4);have q7_:=((Xw h5).imp (fun h=>((Xw h).imp (fun h=>(Zo h)) (fun h=>(Zo h)))) (fun h=>(Zo h)));(try have bq_:=hp_math_Atan2);(try have n3_:=ZS hr3);(try have n4_:=ZS hr4);have hv0_:=hv0.1;first | exact PN (YP h1) hv0 (of_decide_eq_true h3) h4 hr4 hr5 hr6 hr7 hr8 h5 | exact PO (YP h1) hv0 (of_decide_eq_true h3) h4 hr3 hr10 hr11 hr12 hr13 h7) (by have q0_:=(Zo (Zt (Zt (Zt h1))));have q1_:=(Zo (ZR (Zt (Zt h1))));have q2_:=(Zo (ZR (Zt h1)));have q3_:=(Zo (ZR h1));have q4_:=((Xw h2).imp (fun h=>(ZN h)) (fun h=>(ZN h)));have q5_:=(Z4 h3);have q6_:=(Yx h4);have q7_:=((Xw h5).imp (fun h=>((Xw h).imp (fun h=>(Zo h)) (fun h=>(Zo h)))) (fun h=>(Zo h)));(try have bq_:=hp_math_Atan2);(try have n3_:=ZS hr3);(try have n4_:=ZS hr4);have hv0_:=hv0.1;(try clear hr4);(try clear hr3);(try clear hr5);(try clear hr6);(try clear hr7);(try clear hr8);(try clear hr9);(try clear hr10);(try clear hr11);(try clear hr12);(try clear hr13);(try clear hr14); omega) Kr (sb 4))))))))
          · refine TC.snr (TL.run 1 [] [(1,.p0 b1),(4,.i r2),(6,.i r3),(50,.i s),(64,.i r3)] rfl {} (TL.call (some 65) [(1,.p0 b1),(4,.i r2),(6,.i r3),(50,.i s),(65,P.v (Zx r3))] (fun w hM=>K5 r3 w (hT.sat hM)) Kr Kr ?_))
            generalize hr10:Zx r3=r10
            refine TL.run 4 [] [(1,.p0 b1),(4,.i r2),(6,.i r3),(50,.i s),(65,P.v r10),(67,.i (w64 (r3 + 1)))] rfl {} (TL.rw 67 (.i (w64 (r3 + 1))) (.i (r3 + 1)) Kr (int_eq (by have q0_:=(Zo (Zt (Zt (Zt h1))));have q1_:=(Zo (ZR (Zt (Zt h1))));have q2_:=(Zo (ZR (Zt h1)));have q3_:=(Zo (ZR h1));have q4_:=((Xw h2).imp (fun h=>(ZN h)) (fun h=>(ZN h)));have q5_:=(Z4 h3);have q6_:=(ZN h4);(try have bq_:=hp_math_Atan2);(try have n3_:=ZS hr3);(try have n4_:=ZS hr4);have hv0_:=hv0.1;rw [Zm (x:=(r3 + 1)) (by omega)])) (TL.call (some 68) [(1,.p0 b1),(4,.i r2),(6,.i r3),(50,.i s),(65,P.v r10),(68,P.v (Zx (r3 + 1)))] (fun w hM=>K5 (r3 + 1) w (hT.sat hM)) Kr Kr ?_))
            generalize hr11:Zx (r3 + 1)=r11
            refine TL.write 0 (fun b4=>[(1,.p0 b1),(4,.i r2),(6,.i r3),(7,.p0 b4),(50,.i s),(65,P.v r10),(68,P.v r11)]) (fun b4=>[Bk b4 (P.c P.zero) 36,Bk b1 (P.c v) 36]) (fun b4=>{}) (fun b4=>TL.write 0 (fun b5=>[(1,.p0 b1),(4,.i r2),(6,.i r3),(7,.p0 b4),(8,.p0 b5),(50,.i s),(65,P.v r10),(68,P.v r11)]) (fun b5=>[Bk b5 (P.c P.zero) 36,Bk b4 (P.c P.zero) 36,Bk b1 (P.c v) 36]) (fun b5=>{}) (fun b5=>TL.write 1 (fun _=>[(1,.p0 b1),(4,.i r2),(6,.i r3),(7,.p0 b4),(8,.p0 b5),(50,.i s),(68,P.v r11)]) (fun _=>[Bk b5 (P.c P.zero) 36,Bk b4 (P.c r10) 36,Bk b1 (P.c v) 36]) (fun _=>{}) (fun _=>TL.write 0 (fun _=>[(1,.p0 b1),(4,.i r2),(6,.i r3),(7,.p0 b4),(8,.p0 b5),(50,.i s)]) (fun _=>[Bk b5 (P.c r11) 36,Bk b4 (P.c r10) 36,Bk b1 (P.c v) 36]) (fun _=>{}) (fun _=>TL.ns (TC.draw 8 Kr Kr Kr (TQ.run 2 [1,2] [(1,.p0 b1),(4,.i r2),(6,.i r3),(7,.p0 b4),(8,.p0 b5),(50,.i s),(69,P.v r10),(70,P.v v)] rfl {} (TQ.call (some 71) [(1,.p0 b1),(4,.i r2),(6,.i r3),(7,.p0 b4),(8,.p0 b5),(50,.i s),(71,.i (ZB r10 v))] (fun w _=>JZ r10 v w) rfl Kr Kr ?_)))))))
            generalize hr12:ZB r10 v=r12
            refine TQ.run 5 [2,0] [(1,.p0 b1),(4,.i r2),(6,.i r3),(7,.p0 b4),(50,.i s),(71,.i r12),(72,P.v v),(73,P.v r11)] rfl {} (TQ.call (some 74) [(1,.p0 b1),(4,.i r2),(6,.i r3),(7,.p0 b4),(50,.i s),(71,.i r12),(74,.i (ZB v r11))] (fun w _=>JZ v r11 w) rfl Kr Kr ?_)
            generalize hr13:ZB v r11=r13
            refine TQ.run 8 [] [(1,.p0 b1),(4,.i r2),(6,.i r3),(7,.p0 b4),(9,.i r12),(10,.i r13),(50,.i s)] rfl {} (TQ.next rfl (TC.sr (TL.run 3 [] [(1,.p0 b1),(4,.i r2),(6,.i r3),(7,.p0 b4),(9,.i r12),(10,.i r13),(50,.i s),(77,.b (decide (r12 ≥ 0)))] rfl {} (TL.join 77 (decide (r12 ≥ 0)) 6 [] [] (fun β=>[(1,.p0 b1),(4,.i r2),(6,.i r3),(7,.p0 b4),(9,.i r12),(10,.i r13),(50,.i s),(80,.b (β && (decide (r13 > 0))))]) Kr rfl {} {} (TL.run 7 [] [(1,.p0 b1),(4,.i r2),(6,.i r3),(7,.p0 b4),(9,.i r12),(10,.i r13),(50,.i s),(81,.b ((decide (r12 ≥ 0)) && (decide (r13 > 0))))] rfl {} (TL.join 81 ((decide (r12 ≥ 0)) && (decide (r13 > 0))) 20 [1,2,1,2] [] (fun β=>[(1,.p0 b1),(4,.i r2),(6,.i r3),(9,.i r12),(10,.i r13),(50,.i s),(94,.b (β && (decide ((w64 ((w64 (r10.X * v.X)) + (w64 (r10.Y * v.Y)))) > 0))))]) Kr rfl {} {} (TL.next rfl (TC.cond (((decide (r12 ≥ 0)) && (decide (r13 > 0))) && (decide ((w64 ((w64 (r10.X * v.X)) + (w64 (r10.Y * v.Y)))) > 0))) rfl Kr (fun h7=>?_) (fun h7=>?_)))))))))
            · refine TC.seq (TC.sr (TL.run 3 [] [(6,.i r3),(97,.b (decide (r12 ≤ r13)))] rfl {} (TL.next rfl (TC.cond (decide (r12 ≤ r13)) rfl Kr (fun h8=>?_) (fun h8=>?_)))))
              · refine TC.sr (TL.run 3 [] [(2,.i r3),(3,.i 0)] rfl {} (TL.next rfl (TC.ret (TE.rt (TE.rb (TE.rt (TE.rt (TE.rb (TE.rt (TE.rt ?_))))))))))
                exact TE.retM (.inl rfl) (r3,0) [] (.tuple #[.i r3,.i 0]) {} rfl (fun _ hM=>(hM.sub (sb 0)).fact (by have q0_:=(Zo (Zt (Zt (Zt h1))));have q1_:=(Zo (ZR (Zt (Zt h1))));have q2_:=(Zo (ZR (Zt h1)));have q3_:=(Zo (ZR h1));have q4_:=((Xw h2).imp (fun h=>(ZN h)) (fun h=>(ZN h)));have q5_:=(Z4 h3);have q6_:=(ZN h4);have q7_:=(Z4 (Qi (Qi h7)));have q8_:=(Z4 (QO (Qi h7)));have q9_:=(Z4 (QO h7));have q10_:=(Z4 h8);(try have bq_:=hp_math_Atan2);(try have n3_:=ZS hr3);(try have n4_:=ZS hr4);have hv0_:=hv0.1;(try dsimp only);first | exact UK (by omega) | exact KX (YP h1) (by omega) | exact Va (YP h1) (XC h2) hr4 hr5 hr6 hr7 hr8 h5 h6 hr9 | exact Va (YP h1) (XC h2) hr3 hr10 hr11 hr12 hr13 h7 h8 hr14 | exact KZ (YP h1) (XC h2) hr4 hr5 hr6 hr7 hr8 h5 h6 | exact KZ (YP h1) (XC h2) hr3 hr10 hr11 hr12 hr13 h7 h8 | exact False.elim ho0))
              · refine TC.snr (TL.run 2 [] [(100,.i (w64 (r3 + 1)))] rfl {} (TL.rw 100 (.i (w64 (r3 + 1))) (.i (r3 + 1)) Kr (int_eq (by have q0_:=(Zo (Zt (Zt (Zt h1))));have q1_:=(Zo (ZR (Zt (Zt h1))));have q2_:=(Zo (ZR (Zt h1)));have q3_:=(Zo (ZR h1));have q4_:=((Xw h2).imp (fun h=>(ZN h)) (fun h=>(ZN h)));have q5_:=(Z4 h3);have q6_:=(ZN h4);have q7_:=(Z4 (Qi (Qi h7)));have q8_:=(Z4 (QO (Qi h7)));have q9_:=(Z4 (QO h7));have q10_:=(Zo h8);(try have bq_:=hp_math_Atan2);(try have n3_:=ZS hr3);(try have n4_:=ZS hr4);have hv0_:=hv0.1;rw [Zm (x:=(r3 + 1)) (by omega)])) (TL.call (some 101) [(101,.i (ZM (r3 + 1)))] (fun w _=>Jr (r3 + 1) w) Kr Kr ?_)))
                generalize hr14:ZM (r3 + 1)=r14
                refine TL.run 5 [] [(2,.i r14),(3,.i 0)] rfl {} (TL.next rfl (TC.ret (TE.rb (TE.rt (TE.rt (TE.rb (TE.rt (TE.rt ?_))))))))
                exact TE.retM (.inl rfl) (r14,0) [] (.tuple #[.i r14,.i 0]) {} rfl (fun _ hM=>(hM.sub (sb 0)).fact (by have q0_:=(Zo (Zt (Zt (Zt h1))));have q1_:=(Zo (ZR (Zt (Zt h1))));have q2_:=(Zo (ZR (Zt h1)));have q3_:=(Zo (ZR h1));have q4_:=((Xw h2).imp (fun h=>(ZN h)) (fun h=>(ZN h)));have q5_:=(Z4 h3);have q6_:=(ZN h4);have q7_:=(Z4 (Qi (Qi h7)));have q8_:=(Z4 (QO (Qi h7)));have q9_:=(Z4 (QO h7));have q10_:=(Zo h8);(try have bq_:=hp_math_Atan2);(try have n3_:=ZS hr3);(try have n4_:=ZS hr4);have hv0_:=hv0.1;(try dsimp only);first | exact UK (by omega) | exact KX (YP h1) (by omega) | exact Va (YP h1) (XC h2) hr4 hr5 hr6 hr7 hr8 h5 h6 hr9 | exact Va (YP h1) (XC h2) hr3 hr10 hr11 hr12 hr13 h7 h8 hr14 | exact KZ (YP h1) (XC h2) hr4 hr5 hr6 hr7 hr8 h5 h6 | exact KZ (YP h1) (XC h2) hr3 hr10 hr11 hr12 hr13 h7 h8 | exact False.elim ho0))
            · exact TC.skip (TE.nb (TE.next (TC.region (TL.run 2 [] [(1,.p0 b1),(4,.i r2),(50,.i (w64 (s + 1)))] rfl {} (TL.rw 50 (.i (w64 (s + 1))) (.i (s + 1)) Kr (int_eq (by have q0_:=(Zo (Zt (Zt (Zt h1))));have q1_:=(Zo (ZR (Zt (Zt h1))));have q2_:=(Zo (ZR (Zt h1)));have q3_:=(Zo (ZR h1));have q4_:=((Xw h2).imp (fun h=>(ZN h)) (fun h=>(ZN h)));have q5_:=(Z4 h3);have q6_:=(ZN h4);have q7_:=((Xw h7).imp (fun h=>((Xw h).imp (fun h=>(Zo h)) (fun h=>(Zo h)))) (fun h=>(Zo h)));(try have bq_:=hp_math_Atan2);(try have n3_:=ZS hr3);(try have n4_:=ZS hr4);have hv0_:=hv0.1;rw [Zm (x:=(s + 1)) (by omega)])) (TL.done rfl (TE.again (x:=s) (s + 1) (by have q0_:=(Zo (Zt (Zt (Zt h1))));have q1_:=(Zo (ZR (Zt (Zt h1))));have q2_:=(Zo (ZR (Zt h1)));have q3_:=(Zo (ZR h1));have q4_:=((Xw h2).imp (fun h=>(ZN h)) (fun h=>(ZN h)));have q5_:=(Z4 h3);have q6_:=(ZN h4);have q7_:=((Xw h7).imp (fun h=>((Xw h).imp (fun h=>(Zo h)) (fun h=>(Zo h)))) (fun h=>(Zo h)));(try have bq_:=hp_math_Atan2);(try have n3_:=ZS hr3);(try have n4_:=ZS hr4);have hv0_:=hv0.1;first | exact PN (YP h1) hv0 (of_decide_eq_true h3) h4 hr4 hr5 hr6 hr7 hr8 h5 | exact PO (YP h1) hv0 (of_decide_eq_true h3) h4 hr3 hr10 hr11 hr12 hr13 h7) (by have q0_:=(Zo (Zt (Zt (Zt h1))));have q1_:=(Zo (ZR (Zt (Zt h1))));have q2_:=(Zo (ZR (Zt h1)));have q3_:=(Zo (ZR h1));have q4_:=((Xw h2).imp (fun h=>(ZN h)) (fun h=>(ZN h)));have q5_:=(Z4 h3);have q6_:=(ZN h4);have q7_:=((Xw h7).imp (fun h=>((Xw h).imp (fun h=>(Zo h)) (fun h=>(Zo h)))) (fun h=>(Zo h)));(try have bq_:=hp_math_Atan2);(try have n3_:=ZS hr3);(try have n4_:=ZS hr4);have hv0_:=hv0.1;(try clear hr4);(try clear hr3);(try clear hr5);(try clear hr6);(try clear hr7);(try clear hr8);(try clear hr9);(try clear hr10);(try clear hr11);(try clear hr12);(try clear hr13);(try clear hr14); omega) Kr (sb 4))))))))
        · refine TC.exit (TE.et (TE.et (TE.exit_same ?_)))
          exact TE.cut () (by have q0_:=(Zo (Zt (Zt (Zt h1))));have q1_:=(Zo (ZR (Zt (Zt h1))));have q2_:=(Zo (ZR (Zt h1)));have q3_:=(Zo (ZR h1));have q4_:=((Xw h2).imp (fun h=>(ZN h)) (fun h=>(ZN h)));have q5_:=(Zo h3);(try have bq_:=hp_math_Atan2);(try have n3_:=ZS hr3);(try have n4_:=ZS hr4);have hv0_:=hv0.1;first | exact Oy (XC h2) hv0 (of_decide_eq_false h3)) Kr (sb 1)
      · intro _ ho0
        exact TE.nr (TL.run 2 [] [(2,.i 0),(3,.i 0)] rfl {} (TL.next rfl (TC.ret (TE.retM (.inl rfl) (0,0) [] (.tuple #[.i 0,.i 0]) {} rfl (fun _ hM=>(hM.sub (sb 0)).fact (by have q0_:=(Zo (Zt (Zt (Zt h1))));have q1_:=(Zo (ZR (Zt (Zt h1))));have q2_:=(Zo (ZR (Zt h1)));have q3_:=(Zo (ZR h1));have q4_:=((Xw h2).imp (fun h=>(ZN h)) (fun h=>(ZN h)));(try have bq_:=hp_math_Atan2);(try have n3_:=ZS hr3);(try have n4_:=ZS hr4);(try dsimp only);first | exact UK (by omega) | exact KX (YP h1) (by omega) | exact Va (YP h1) (XC h2) hr4 hr5 hr6 hr7 hr8 h5 h6 hr9 | exact Va (YP h1) (XC h2) hr3 hr10 hr11 hr12 hr13 h7 h8 hr14 | exact KZ (YP h1) (XC h2) hr4 hr5 hr6 hr7 hr8 h5 h6 | exact KZ (YP h1) (XC h2) hr3 hr10 hr11 hr12 hr13 h7 h8 | exact False.elim ho0))))))
end Go.Sky
end
section
namespace Go.Sky
open Go Go.Eng Go.Proofs
def Q6 (h_:Int) (length:Int):P × Int :=
  cond ((decide (length < 0)) || (decide (length > 2000000))) (
    ((⟨0,0⟩:P),4)) (
    let r1:=Q3 h_
    let r2:=(Xq (w64 (length * r1)))
    let r3:=Jc h_
    let r4:=(Xq (w64 (length * r3)))
    ((⟨r2,r4⟩:P),0))
theorem Ly {h r:Int} (hr:Q3 h=r):-16384 ≤ r ∧ r ≤ 16384:=by rw [D6] at hr;rw [← hr];exact M6 (by omega)
theorem Px {h r:Int} (hr:Jc h=r):-16384 ≤ r ∧ r ≤ 16384:=by
  unfold Jc at hr;exact Ly hr
theorem TB {l r:Int} (hl:0 ≤ l ∧ l ≤ 2000000) (hr:-16384 ≤ r ∧ r ≤ 16384):-4611686018427387904 ≤ w64 (l * r) ∧ w64 (l * r) ≤ 4611686018427387904:=by
  have:=KN hr (b:=l) (by omega)
  rw [Int.mul_comm r l] at this
  rw [Zm (by omega)];omega
set_option maxRecDepth 100000 in
theorem H3 (h_:Int) (length:Int) (w:World) (hT:Ua w):Calls Tryz.prog 94 #[.int .i64 h_,.int .i64 length] w (Ret w (.tuple #[P.v ((Q6 h_ length).1),.int .i64 ((Q6 h_ length).2)])):=by
  refine Zk (vs:=[.i h_,.i length]) (w:=w) Tryz.func94 rfl Tryz.ntmps94 rfl (TC.sr (TL.nw 4 (fun b1=>.p0 b1) (fun b1=>Bk b1 (P.c P.zero) 36) (fun b1=>{}) (fun b1=>TL.r 2 [] [(5,.i 0)] {} (TL.ns (TC.sr (TL.r 3 [] [(8,.b (decide (length < 0)))] {} (TL.j 8 (decide (length < 0)) 6 [] [] (fun β=>[(11,.b (β || (decide (length > 2000000))))]) Kr {} {} (TL.next rfl (TC.cond ((decide (length < 0)) || (decide (length > 2000000))) rfl Kr (fun h1=>?_) (fun h1=>?_))))))))))
  · exact TC.sr (TL.r 1 [] [(12,P.v P.zero)] {} (TL.s 0 (Bk b1 (P.c P.zero) 36) (fun _=>{}) (TL.r 3 [] [(5,.i 4)] {} (TL.next rfl (TC.ret (TE.rt (TE.ret [0] (.tuple #[P.v (⟨0,0⟩:P),.i 4]) {} (by unfold Q6;refine eS (a:=((⟨0,0⟩:P),4)) (fun (z:P × Int)=>(.tuple #[P.v z.1,.i z.2]:Value)) ?_;exact Zi h1 (rfl)))))))))
  · have q1_0:=(Zo (Zt h1))
    have q1_1:=(Zo (ZR h1))
    refine TC.snr (TL.r 2 [] [(13,.i length),(14,.i h_)] {} (TL.c 15 (Q3 h_) (fun r1=>.i r1) (fun w hM=>Ub h_ w (hT.sat hM)) {} (fun r1 hr1=>TL.r 4 [] [(16,.i (w64 (length * r1)))] {} (TL.callM (Γ:=Int) (fun g=>.i g) (fun g=>[.inr (X8 (g=Xq (w64 (length * r1))))]) [] [Bk b1 (P.c P.zero) 36] (some 17) (fun g=>[(0,.i h_),(1,.i length),(4,.p0 b1),(17,.i g)]) (fun w hM=>Gy (w64 (length * r1)) 16384 w hM.pass rfl (by subst hr1;exact TB (by omega) (Ly rfl))) Kr (fun g=>Kr) ?_))))
    rintro r2
    refine TL.conv [.inr (X8 (r2=Xq (w64 (length * r1)))),Bk b1 (P.c P.zero) 36] (fun _ hM=>hM) (TL.know (fun w hM=>hM.fact_at 0 rfl) (fun hp_angle_near=>TL.forget [Bk b1 (P.c P.zero) 36] (.cons _ (List.Sublist.refl _)) ?_))
    have hr2:(Xq (w64 (length * r1)))=r2:=(hp_angle_near).symm
    refine TL.r 7 [] [(18,.i length),(19,.i h_)] {} (TL.c 20 (Jc h_) (fun r3=>.i r3) (fun w hM=>Wi h_ w (hT.sat hM)) {} (fun r3 hr3=>TL.r 9 [] [(21,.i (w64 (length * r3)))] {} (TL.callM (Γ:=Int) (fun g=>.i g) (fun g=>[.inr (X8 (g=Xq (w64 (length * r3))))]) [] [Bk b1 (P.c P.zero) 36] (some 22) (fun g=>[(4,.p0 b1),(17,.i r2),(22,.i g)]) (fun w hM=>Gy (w64 (length * r3)) 16384 w hM.pass rfl (by subst hr1 hr2 hr3;exact TB (by omega) (Px rfl))) Kr (fun g=>Kr) ?_)))
    rintro r4
    refine TL.conv [.inr (X8 (r4=Xq (w64 (length * r3)))),Bk b1 (P.c P.zero) 36] (fun _ hM=>hM) (TL.know (fun w hM=>hM.fact_at 0 rfl) (fun hp_angle_near=>TL.forget [Bk b1 (P.c P.zero) 36] (.cons _ (List.Sublist.refl _)) ?_))
    have hr4:(Xq (w64 (length * r3)))=r4:=(hp_angle_near).symm
    exact TL.r 11 [] [(23,P.v (⟨r2,r4⟩:P))] {} (TL.s 0 (Bk b1 (P.c (⟨r2,r4⟩:P)) 36) (fun _=>{}) (TL.r 13 [] [(5,.i 0)] {} (TL.next rfl (TC.ret (TE.ret [0] (.tuple #[P.v (⟨r2,r4⟩:P),.i 0]) {} (by unfold Q6;refine eS (a:=((⟨r2,r4⟩:P),0)) (fun (z:P × Int)=>(.tuple #[P.v z.1,.i z.2]:Value)) ?_;subst hr1 hr2 hr3 hr4;exact Zb h1 (rfl)))))))
end Go.Sky
end
section
namespace Go.Sky
open Go Go.Eng Go.Proofs
def X3 (n:Int):Nat → Int → Int → Option Int
  | 0,_,_=>none
  | m + 1,low,high=>cond (decide (low < high)) (
      cond (decide ((w64 ((w64 (low + (w64 ((w64 ((w64 (high - low)) + 1)).tdiv 2)))) * (w64 (low + (w64 ((w64 ((w64 (high - low)) + 1)).tdiv 2)))))) ≤ n)) (
        X3 n m (w64 (low + (w64 ((w64 ((w64 (high - low)) + 1)).tdiv 2)))) high) (
        X3 n m low (w64 ((w64 (low + (w64 ((w64 ((w64 (high - low)) + 1)).tdiv 2)))) - 1)))) (
      some (low))
def X4 (n:Int):Int :=
  cond (decide (n ≤ 0)) (
    0) (
    Y3 ((X3 n 34 0 3037000499).getD 0) (fun low_2 =>
      low_2))
theorem UL (n:Int):∀ (j:Nat) (a b:Int),(0 ≤ a ∧ b ≤ 3037000499 ∧ b - a < 2 ^ j) → ∃ R,X3 n (j + 1) a b=some R
  | 0,a,b,h=>by
    have e:(2:Int) ^ 0=1:=rfl
    have hk:decide (a < b)=false:=by simp;omega
    exact ⟨a,by rw [X3,hk];rfl⟩
  | j + 1,a,b,h=>by
    have e:(2:Int) ^ (j + 1)=2 * 2 ^ j:=by rw [Int.pow_succ];omega
    by_cases hk:a < b
    · have w1:w64 (w64 (b - a) + 1)=b - a + 1:=by rw [Zm (x:=b - a) (by omega),Zm (by omega)]
      have d1:(b - a + 1).tdiv 2=(b - a + 1) / 2:=Int.tdiv_eq_ediv_of_nonneg (by omega)
      have w2:w64 ((w64 (w64 (b - a) + 1)).tdiv 2)=(b - a + 1) / 2:=by rw [w1,d1,Zm (by omega)]
      have w3:w64 (a + w64 ((w64 (w64 (b - a) + 1)).tdiv 2))=a + (b - a + 1) / 2:=by rw [w2,Zm (by omega)]
      rw [X3,decide_eq_true hk]
      simp only [cond_true,w3]
      cases decide (w64 ((a + (b - a + 1) / 2) * (a + (b - a + 1) / 2)) ≤ n)
      · rw [cond_false,Zm (by omega)]
        exact UL n j a _ (by omega)
      · rw [cond_true]
        exact UL n j _ b (by omega)
    · exact ⟨a,by rw [X3,decide_eq_false hk];rfl⟩
set_option maxRecDepth 100000 in
theorem MC (n:Int) (w:World):Calls Tryz.prog 128 #[.int .i64 n] w (Ret w (.int .i64 (X4 n))):=by
  refine Zk (vs:=[.i n]) (w:=w) Tryz.func128 rfl Tryz.ntmps128 rfl (TC.sr (TL.r 1 [] [(2,.i 0)] {} (TL.ns (TC.sr (TL.r 2 [] [(7,.b (decide (n ≤ 0)))] {} (TL.next rfl (TC.cond (decide (n ≤ 0)) rfl Kr (fun h1=>?_) (fun h1=>?_))))))))
  · exact TC.sr (TL.r 1 [] [(2,.i 0)] {} (TL.next rfl (TC.ret (TE.rt (TE.ret [] (.i 0) {} (by unfold X4;refine eS (fun z=>(.i z:Value)) ?_;exact Zi h1 (rfl)))))))
  · have q1_0:=(Zo h1)
    refine TC.snr (TL.r 2 [] [(3,.i 0),(4,.i 3037000499)] {} (TL.ns ?_))
    obtain ⟨R1,hR⟩:∃ R,X3 n 34 0 3037000499=some R:=UL n 33 0 3037000499 (by omega)
    refine TC.cut (S:=Int) (fun low_2=>[(3,.i low_2)]) (fun low_2=>[]) (fun low_2=>R1=low_2) ?_ ?_
    · refine TC.block (TC.lw (X:=Nat × Int × Int) (fun (m,low,high)=>[(0,.i n),(3,.i low),(4,.i high)]) (fun (m,low,high)=>[]) (fun (m,low,high)=>m) (fun (m,low,high)=>X3 n m low high=some R1) ?_ (34,0,3037000499) hR Kr (sb 0))
      rintro ⟨m,low,high⟩ hI
      rcases m with _ | m
      · cases hI
      refine TC.seq (TC.sr (TL.r 3 [] [(10,.b (decide (low < high)))] {} (TL.next rfl (TC.cond (decide (low < high)) rfl Kr (fun h2=>?_) (fun h2=>?_)))))
      · refine TC.sn (TC.block (TC.sr (TL.r 8 [] [(5,.i (w64 (low + (w64 ((w64 ((w64 (high - low)) + 1)).tdiv 2)))))] {} (TL.nr (TL.r 5 [] [(22,.b (decide ((w64 ((w64 (low + (w64 ((w64 ((w64 (high - low)) + 1)).tdiv 2)))) * (w64 (low + (w64 ((w64 ((w64 (high - low)) + 1)).tdiv 2)))))) ≤ n)))] {} (TL.next rfl (TC.cond (decide ((w64 ((w64 (low + (w64 ((w64 ((w64 (high - low)) + 1)).tdiv 2)))) * (w64 (low + (w64 ((w64 ((w64 (high - low)) + 1)).tdiv 2)))))) ≤ n)) rfl Kr (fun h3=>?_) (fun h3=>?_))))))))
        · exact TC.region (TL.r 2 [] [(3,.i (w64 (low + (w64 ((w64 ((w64 (high - low)) + 1)).tdiv 2)))))] {} (TL.done rfl (TE.nb (TE.again (x:=(m + 1,low,high)) (m,w64 (low + (w64 ((w64 ((w64 (high - low)) + 1)).tdiv 2))),high) (by refine Eq.trans (Eq.symm ?_) hI;exact Zi h2 (Zi h3 (rfl))) (Nat.lt_succ_self _) Kr (sb 0)))))
        · exact TC.region (TL.r 3 [] [(4,.i (w64 ((w64 (low + (w64 ((w64 ((w64 (high - low)) + 1)).tdiv 2)))) - 1)))] {} (TL.done rfl (TE.nb (TE.again (x:=(m + 1,low,high)) (m,low,w64 ((w64 (low + (w64 ((w64 ((w64 (high - low)) + 1)).tdiv 2)))) - 1)) (by refine Eq.trans (Eq.symm ?_) hI;exact Zi h2 (Zb h3 (rfl))) (Nat.lt_succ_self _) Kr (sb 0)))))
      · refine TC.exit (TE.et (TE.et (TE.exit_same ?_)))
        exact TE.cut low (Option.some.inj (hI.symm.trans (by exact Zb h2 (rfl)))) Kr (sb 0)
    · rintro low_2 hJ
      exact TE.nr (TL.r 2 [] [(2,.i low_2)] {} (TL.next rfl (TC.ret (TE.ret [] (.i low_2) {} (by unfold X4;refine eS (fun z=>(.i z:Value)) ?_;exact Zb h1 (Ye ((congrArg (Option.getD · _) hR).trans hJ) (rfl)))))))
def XU (a:P) (b_:P):Int × Int :=
  let r1:=ZV a b_
  let r2:=X4 r1
  cond (decide ((w64 (r2 * r2)) < r1)) (
    (r2,w64 (r2 + 1))) (
    (r2,r2))
set_option maxRecDepth 100000 in
theorem GP (a:P) (b_:P) (w:World):Calls Tryz.prog 71 #[P.v a,P.v b_] w (Ret w (.tuple #[.int .i64 ((XU a b_).1),.int .i64 ((XU a b_).2)])):=by
  refine Zk (vs:=[P.v a,P.v b_]) (w:=w) Tryz.func71 rfl Tryz.ntmps71 rfl (TC.sr (TL.nw 2 (fun b1=>.p0 b1) (fun b1=>Bk b1 (P.c a) 36) (fun b1=>{}) (fun b1=>TL.nw 3 (fun b2=>.p0 b2) (fun b2=>Bk b2 (P.c b_) 36) (fun b2=>{}) (fun b2=>TL.r 4 [] [(4,.i 0),(5,.i 0)] {} (TL.nr (TL.r 2 [1,0] [(8,P.v a),(9,P.v b_)] {} (TL.c 10 (ZV a b_) (fun r1=>.i r1) (fun w _=>KB a b_ w) {} (fun r1 hr1=>TL.r 4 [] [(6,.i r1)] {} (TL.nr (TL.r 1 [] [(11,.i r1)] {} (TL.c 12 (X4 r1) (fun r2=>.i r2) (fun w _=>MC r1 w) {} (fun r2 hr2=>TL.r 3 [] [(7,.i r2)] {} (TL.ns (TC.sr (TL.r 5 [] [(17,.b (decide ((w64 (r2 * r2)) < r1)))] {} (TL.next rfl (TC.cond (decide ((w64 (r2 * r2)) < r1)) rfl Kr (fun h1=>?_) (fun h1=>?_))))))))))))))))))
  · exact TC.sr (TL.r 5 [] [(4,.i r2),(5,.i (w64 (r2 + 1)))] {} (TL.next rfl (TC.ret (TE.rt (TE.ret [] (.tuple #[.i r2,.i (w64 (r2 + 1))]) {} (by unfold XU;refine eS (a:=(r2,w64 (r2 + 1))) (fun (z:Int × Int)=>(.tuple #[.i z.1,.i z.2]:Value)) ?_;subst hr1 hr2;exact Zi h1 (rfl)))))))
  · exact TC.snr (TL.r 4 [] [(4,.i r2),(5,.i r2)] {} (TL.next rfl (TC.ret (TE.ret [] (.tuple #[.i r2,.i r2]) {} (by unfold XU;refine eS (a:=(r2,r2)) (fun (z:Int × Int)=>(.tuple #[.i z.1,.i z.2]:Value)) ?_;subst hr1 hr2;exact Zb h1 (rfl))))))
def Yc (s:Zh):Int :=
  let r1:=ZH s.ID 0 255
  cond r1 (
    4) (
    let r2:=Yf s.At
    cond (r2 != 0) (
      4) (
      let r3:=ZH s.Reach 1 1000000
      cond r3 (
        4) (
        let r4:=ZH s.RangeError 1 10000
        cond r4 (
          4) (
          let r5:=ZH s.AzimuthError 1 100
          cond r5 (
            4) (
            0)))))
set_option maxRecDepth 100000 in
theorem Kp (s:Zh) (w:World):Calls Tryz.prog 69 #[Zh.v s] w (Ret w (.int .i64 (Yc s))):=by
  refine Zk (vs:=[Zh.v s]) (w:=w) Tryz.func69 rfl Tryz.ntmps69 rfl (TC.sr (TL.nw 1 (fun b1=>.p0 b1) (fun b1=>Bk b1 (Zh.c s) 85) (fun b1=>{}) (fun b1=>TL.r 2 [] [(2,.i 0)] {} (TL.ns (TC.sr (TL.r 2 [0] [(4,.i s.ID)] {} (TL.c 5 (ZH s.ID 0 255) (fun r1=>.b r1) (fun w _=>Xb s.ID 0 255 w) {} (fun r1 hr1=>TL.r 4 [] [(6,.b r1)] {} (TL.split 6 r1 Kr (fun h1=>?_) (fun h1=>?_))))))))))
  · exact TL.r 24 [] [(26,.b true)] {} (TL.next rfl (TC.condT rfl Kr (TC.sr (TL.r 1 [] [(2,.i 4)] {} (TL.next rfl (TC.ret (TE.rt (TE.ret [] (.i 4) {} (by unfold Yc;refine eS (fun z=>(.i z:Value)) ?_;subst hr1;exact Zi h1 (rfl))))))))))
  · refine TL.r 6 [0] [(8,P.v s.At)] {} (TL.c 9 (Yf s.At) (fun r2=>.i r2) (fun w _=>JV s.At w) {} (fun r2 hr2=>TL.r 10 [] [(12,.b (r2 != 0))] {} (TL.split 12 (r2 != 0) Kr (fun h2=>?_) (fun h2=>?_))))
    · exact TL.r 24 [] [(26,.b true)] {} (TL.next rfl (TC.condT rfl Kr (TC.sr (TL.r 1 [] [(2,.i 4)] {} (TL.next rfl (TC.ret (TE.rt (TE.ret [] (.i 4) {} (by unfold Yc;refine eS (fun z=>(.i z:Value)) ?_;subst hr1 hr2;exact Zb h1 (Zi h2 (rfl)))))))))))
    · refine TL.r 12 [0] [(14,.i s.Reach)] {} (TL.c 15 (ZH s.Reach 1 1000000) (fun r3=>.b r3) (fun w _=>Xb s.Reach 1 1000000 w) {} (fun r3 hr3=>TL.r 15 [] [(17,.b r3)] {} (TL.split 17 r3 Kr (fun h3=>?_) (fun h3=>?_))))
      · exact TL.r 24 [] [(26,.b true)] {} (TL.next rfl (TC.condT rfl Kr (TC.sr (TL.r 1 [] [(2,.i 4)] {} (TL.next rfl (TC.ret (TE.rt (TE.ret [] (.i 4) {} (by unfold Yc;refine eS (fun z=>(.i z:Value)) ?_;subst hr1 hr2 hr3;exact Zb h1 (Zb h2 (Zi h3 (rfl))))))))))))
      · refine TL.r 17 [0] [(19,.i s.RangeError)] {} (TL.c 20 (ZH s.RangeError 1 10000) (fun r4=>.b r4) (fun w _=>Xb s.RangeError 1 10000 w) {} (fun r4 hr4=>TL.r 20 [] [(22,.b r4)] {} (TL.split 22 r4 Kr (fun h4=>?_) (fun h4=>?_))))
        · exact TL.r 24 [] [(26,.b true)] {} (TL.next rfl (TC.condT rfl Kr (TC.sr (TL.r 1 [] [(2,.i 4)] {} (TL.next rfl (TC.ret (TE.rt (TE.ret [] (.i 4) {} (by unfold Yc;refine eS (fun z=>(.i z:Value)) ?_;subst hr1 hr2 hr3 hr4;exact Zb h1 (Zb h2 (Zb h3 (Zi h4 (rfl)))))))))))))
        · refine TL.r 22 [0] [(24,.i s.AzimuthError)] {} (TL.c 25 (ZH s.AzimuthError 1 100) (fun r5=>.b r5) (fun w _=>Xb s.AzimuthError 1 100 w) {} (fun r5 hr5=>TL.r 24 [] [(26,.b r5)] {} (TL.next rfl (TC.cond r5 rfl Kr (fun h5=>?_) (fun h5=>?_)))))
          · exact TC.sr (TL.r 1 [] [(2,.i 4)] {} (TL.next rfl (TC.ret (TE.rt (TE.ret [] (.i 4) {} (by unfold Yc;refine eS (fun z=>(.i z:Value)) ?_;subst hr1 hr2 hr3 hr4 hr5;exact Zb h1 (Zb h2 (Zb h3 (Zb h4 (Zi h5 (rfl)))))))))))
          · exact TC.snr (TL.r 1 [] [(2,.i 0)] {} (TL.next rfl (TC.ret (TE.ret [] (.i 0) {} (by unfold Yc;refine eS (fun z=>(.i z:Value)) ?_;subst hr1 hr2 hr3 hr4 hr5;exact Zb h1 (Zb h2 (Zb h3 (Zb h4 (Zb h5 (rfl))))))))))
def ZL (p:Zl):Int :=
  let r1:=ZH p.Radar 0 255
  cond r1 (
    4) (
    let r2:=ZH p.Time 0 200000
    cond r2 (
      4) (
      let r3:=ZH p.Range 0 2000000
      cond r3 (
        4) (
        let r4:=ZH p.Azimuth 0 4095
        cond r4 (
          4) (
          let r5:=ZH p.Height 0 60000
          cond r5 (
            4) (
            let r6:=ZH p.Code (-1) 4095
            cond r6 (
              4) (
              0))))))
set_option maxRecDepth 100000 in
theorem JE (p:Zl) (w:World):Calls Tryz.prog 90 #[Zl.v p] w (Ret w (.int .i64 (ZL p))):=by
  refine Zk (vs:=[Zl.v p]) (w:=w) Tryz.func90 rfl Tryz.ntmps90 rfl (TC.sr (TL.nw 1 (fun b1=>.p0 b1) (fun b1=>Bk b1 (Zl.c p) 89) (fun b1=>{}) (fun b1=>TL.r 2 [] [(2,.i 0)] {} (TL.ns (TC.sr (TL.r 2 [0] [(4,.i p.Radar)] {} (TL.c 5 (ZH p.Radar 0 255) (fun r1=>.b r1) (fun w _=>Xb p.Radar 0 255 w) {} (fun r1 hr1=>TL.r 4 [] [(6,.b r1)] {} (TL.split 6 r1 Kr (fun h1=>?_) (fun h1=>?_))))))))))
  · exact TL.r 28 [] [(30,.b true)] {} (TL.next rfl (TC.condT rfl Kr (TC.sr (TL.r 1 [] [(2,.i 4)] {} (TL.next rfl (TC.ret (TE.rt (TE.ret [] (.i 4) {} (by unfold ZL;refine eS (fun z=>(.i z:Value)) ?_;subst hr1;exact Zi h1 (rfl))))))))))
  · refine TL.r 6 [0] [(8,.i p.Time)] {} (TL.c 9 (ZH p.Time 0 200000) (fun r2=>.b r2) (fun w _=>Xb p.Time 0 200000 w) {} (fun r2 hr2=>TL.r 9 [] [(11,.b r2)] {} (TL.split 11 r2 Kr (fun h2=>?_) (fun h2=>?_))))
    · exact TL.r 28 [] [(30,.b true)] {} (TL.next rfl (TC.condT rfl Kr (TC.sr (TL.r 1 [] [(2,.i 4)] {} (TL.next rfl (TC.ret (TE.rt (TE.ret [] (.i 4) {} (by unfold ZL;refine eS (fun z=>(.i z:Value)) ?_;subst hr1 hr2;exact Zb h1 (Zi h2 (rfl)))))))))))
    · refine TL.r 11 [0] [(13,.i p.Range)] {} (TL.c 14 (ZH p.Range 0 2000000) (fun r3=>.b r3) (fun w _=>Xb p.Range 0 2000000 w) {} (fun r3 hr3=>TL.r 14 [] [(16,.b r3)] {} (TL.split 16 r3 Kr (fun h3=>?_) (fun h3=>?_))))
      · exact TL.r 28 [] [(30,.b true)] {} (TL.next rfl (TC.condT rfl Kr (TC.sr (TL.r 1 [] [(2,.i 4)] {} (TL.next rfl (TC.ret (TE.rt (TE.ret [] (.i 4) {} (by unfold ZL;refine eS (fun z=>(.i z:Value)) ?_;subst hr1 hr2 hr3;exact Zb h1 (Zb h2 (Zi h3 (rfl))))))))))))
      · refine TL.r 16 [0] [(18,.i p.Azimuth)] {} (TL.c 19 (ZH p.Azimuth 0 4095) (fun r4=>.b r4) (fun w _=>Xb p.Azimuth 0 4095 w) {} (fun r4 hr4=>TL.r 19 [] [(21,.b r4)] {} (TL.split 21 r4 Kr (fun h4=>?_) (fun h4=>?_))))
        · exact TL.r 28 [] [(30,.b true)] {} (TL.next rfl (TC.condT rfl Kr (TC.sr (TL.r 1 [] [(2,.i 4)] {} (TL.next rfl (TC.ret (TE.rt (TE.ret [] (.i 4) {} (by unfold ZL;refine eS (fun z=>(.i z:Value)) ?_;subst hr1 hr2 hr3 hr4;exact Zb h1 (Zb h2 (Zb h3 (Zi h4 (rfl)))))))))))))
        · refine TL.r 21 [0] [(23,.i p.Height)] {} (TL.c 24 (ZH p.Height 0 60000) (fun r5=>.b r5) (fun w _=>Xb p.Height 0 60000 w) {} (fun r5 hr5=>TL.r 24 [] [(26,.b r5)] {} (TL.split 26 r5 Kr (fun h5=>?_) (fun h5=>?_))))
          · exact TL.r 28 [] [(30,.b true)] {} (TL.next rfl (TC.condT rfl Kr (TC.sr (TL.r 1 [] [(2,.i 4)] {} (TL.next rfl (TC.ret (TE.rt (TE.ret [] (.i 4) {} (by unfold ZL;refine eS (fun z=>(.i z:Value)) ?_;subst hr1 hr2 hr3 hr4 hr5;exact Zb h1 (Zb h2 (Zb h3 (Zb h4 (Zi h5 (rfl))))))))))))))
          · refine TL.r 26 [0] [(28,.i p.Code)] {} (TL.c 29 (ZH p.Code (-1) 4095) (fun r6=>.b r6) (fun w _=>Xb p.Code (-1) 4095 w) {} (fun r6 hr6=>TL.r 28 [] [(30,.b r6)] {} (TL.next rfl (TC.cond r6 rfl Kr (fun h6=>?_) (fun h6=>?_)))))
            · exact TC.sr (TL.r 1 [] [(2,.i 4)] {} (TL.next rfl (TC.ret (TE.rt (TE.ret [] (.i 4) {} (by unfold ZL;refine eS (fun z=>(.i z:Value)) ?_;subst hr1 hr2 hr3 hr4 hr5 hr6;exact Zb h1 (Zb h2 (Zb h3 (Zb h4 (Zb h5 (Zi h6 (rfl))))))))))))
            · exact TC.snr (TL.r 1 [] [(2,.i 0)] {} (TL.next rfl (TC.ret (TE.ret [] (.i 0) {} (by unfold ZL;refine eS (fun z=>(.i z:Value)) ?_;subst hr1 hr2 hr3 hr4 hr5 hr6;exact Zb h1 (Zb h2 (Zb h3 (Zb h4 (Zb h5 (Zb h6 (rfl)))))))))))
def Qo (s:Zh) (far:Int):Int × Int :=
  let r1:=Yc s
  cond (r1 != 0) (
    (0,r1)) (
    let r2:=ZH far 0 2000000
    cond r2 (
      (0,4)) (
      let r3:=X1 (w64 (far * s.AzimuthError)) 651
      let r4:=X1 far 23170
      (w64 ((w64 ((w64 (s.RangeError + r3.1)) + r4.1)) + 2),0)))
set_option maxRecDepth 100000 in
theorem HV (s:Zh) (far:Int) (w:World):Calls Tryz.prog 95 #[Zh.v s,.int .i64 far] w (Ret w (.tuple #[.int .i64 ((Qo s far).1),.int .i64 ((Qo s far).2)])):=by
  refine Zk (vs:=[Zh.v s,.i far]) (w:=w) Tryz.func95 rfl Tryz.ntmps95 rfl (TC.sr (TL.nw 2 (fun b1=>.p0 b1) (fun b1=>Bk b1 (Zh.c s) 85) (fun b1=>{}) (fun b1=>TL.r 3 [] [(4,.i 0),(5,.i 0)] {} (TL.ns (TC.sr (TL.r 1 [0] [(11,Zh.v s)] {} (TL.c 12 (Yc s) (fun r1=>.i r1) (fun w _=>Kp s w) {} (fun r1 hr1=>TL.r 3 [] [(6,.i r1)] {} (TL.nr (TL.r 2 [] [(14,.b (r1 != 0))] {} (TL.next rfl (TC.cond (r1 != 0) rfl Kr (fun h1=>?_) (fun h1=>?_)))))))))))))
  · exact TC.sr (TL.r 3 [] [(4,.i 0),(5,.i r1)] {} (TL.next rfl (TC.ret (TE.rt (TE.ret [] (.tuple #[.i 0,.i r1]) {} (by unfold Qo;refine eS (a:=(0,r1)) (fun (z:Int × Int)=>(.tuple #[.i z.1,.i z.2]:Value)) ?_;subst hr1;exact Zi h1 (rfl)))))))
  · refine TC.sn (TC.seq (TC.sr (TL.r 1 [] [(16,.i far)] {} (TL.c 17 (ZH far 0 2000000) (fun r2=>.b r2) (fun w _=>Xb far 0 2000000 w) {} (fun r2 hr2=>TL.next rfl (TC.cond r2 rfl Kr (fun h2=>?_) (fun h2=>?_)))))))
    · exact TC.sr (TL.r 2 [] [(4,.i 0),(5,.i 4)] {} (TL.next rfl (TC.ret (TE.rt (TE.ret [] (.tuple #[.i 0,.i 4]) {} (by unfold Qo;refine eS (a:=(0,4)) (fun (z:Int × Int)=>(.tuple #[.i z.1,.i z.2]:Value)) ?_;subst hr1 hr2;exact Zb h1 (Zi h2 (rfl))))))))
    · exact TC.snr (TL.r 4 [0] [(22,.i (w64 (far * s.AzimuthError)))] {} (TL.c 23 (X1 (w64 (far * s.AzimuthError)) 651) (fun r3=>.tuple #[.i r3.1,.i r3.2]) (fun w _=>Ku (w64 (far * s.AzimuthError)) 651 w) {} (fun r3 hr3=>TL.r 10 [] [(7,.i r3.1)] {} (TL.nr (TL.r 1 [] [(27,.i far)] {} (TL.c 28 (X1 far 23170) (fun r4=>.tuple #[.i r4.1,.i r4.2]) (fun w _=>Ku far 23170 w) {} (fun r4 hr4=>TL.r 7 [] [(9,.i r4.1)] {} (TL.nr (TL.r 9 [0] [(4,.i (w64 ((w64 ((w64 (s.RangeError + r3.1)) + r4.1)) + 2))),(5,.i 0)] {} (TL.next rfl (TC.ret (TE.ret [] (.tuple #[.i (w64 ((w64 ((w64 (s.RangeError + r3.1)) + r4.1)) + 2)),.i 0]) {} (by unfold Qo;refine eS (a:=(w64 ((w64 ((w64 (s.RangeError + r3.1)) + r4.1)) + 2),0)) (fun (z:Int × Int)=>(.tuple #[.i z.1,.i z.2]:Value)) ?_;subst hr1 hr2 hr3 hr4;exact Zb h1 (Zb h2 (rfl)))))))))))))))
def ZG (s:Zh) (p:Zl):Zf × Int :=
  let r1:=Yc s
  cond (r1 != 0) (
    ((⟨0,⟨0,0⟩,0,0,0⟩:Zf),r1)) (
    let r2:=ZL p
    cond (r2 != 0) (
      ((⟨0,⟨0,0⟩,0,0,0⟩:Zf),r2)) (
      cond (p.Radar != s.ID) (
        ((⟨0,⟨0,0⟩,0,0,0⟩:Zf),1)) (
        let r3:=Q6 p.Azimuth p.Range
        let r4:=Qo s p.Range
        let r5:=Qp s.At r3.1
        let r6:=Yf r5
        cond ((r6 != 0) || (decide (r4.1 > 1000000))) (
          ((⟨0,⟨0,0⟩,0,0,0⟩:Zf),8)) (
          ((⟨p.Time,r5,p.Height,p.Code,r4.1⟩:Zf),0)))))
set_option maxHeartbeats 4000000 in
set_option maxRecDepth 100000 in
theorem DC (s:Zh) (p:Zl) (w:World) (hT:Ua w):Calls Tryz.prog 42 #[Zh.v s,Zl.v p] w (Ret w (.tuple #[Zf.v ((ZG s p).1),.int .i64 ((ZG s p).2)])):=by
  refine Zk (vs:=[Zh.v s,Zl.v p]) (w:=w) Tryz.func42 rfl Tryz.ntmps42 rfl (TC.sr (TL.nw 2 (fun b1=>.p0 b1) (fun b1=>Bk b1 (Zh.c s) 85) (fun b1=>{}) (fun b1=>TL.nw 3 (fun b2=>.p0 b2) (fun b2=>Bk b2 (Zl.c p) 89) (fun b2=>{}) (fun b2=>TL.nw 4 (fun b3=>.p0 b3) (fun b3=>Bk b3 (Zf.c Zf.zero) 42) (fun b3=>{}) (fun b3=>TL.r 4 [] [(5,.i 0)] {} (TL.ns (TC.sr (TL.r 1 [2] [(13,Zh.v s)] {} (TL.c 14 (Yc s) (fun r1=>.i r1) (fun w _=>Kp s w) {} (fun r1 hr1=>TL.r 3 [] [(6,.i r1)] {} (TL.nr (TL.r 2 [] [(16,.b (r1 != 0))] {} (TL.next rfl (TC.cond (r1 != 0) rfl Kr (fun h1=>?_) (fun h1=>?_)))))))))))))))
  · exact TC.sr (TL.r 2 [] [(17,Zf.v Zf.zero),(18,.i r1)] {} (TL.s 0 (Bk b3 (Zf.c Zf.zero) 42) (fun _=>{}) (TL.r 4 [] [(5,.i r1)] {} (TL.next rfl (TC.ret (TE.rt (TE.ret [0] (.tuple #[Zf.v (⟨0,⟨0,0⟩,0,0,0⟩:Zf),.i r1]) {} (by unfold ZG;refine eS (a:=((⟨0,⟨0,0⟩,0,0,0⟩:Zf),r1)) (fun (z:Zf × Int)=>(.tuple #[Zf.v z.1,.i z.2]:Value)) ?_;subst hr1;exact Zi h1 (rfl)))))))))
  · refine TC.sn (TC.seq (TC.sr (TL.r 1 [1] [(19,Zl.v p)] {} (TL.c 20 (ZL p) (fun r2=>.i r2) (fun w _=>JE p w) {} (fun r2 hr2=>TL.r 3 [] [(7,.i r2)] {} (TL.nr (TL.r 2 [] [(22,.b (r2 != 0))] {} (TL.next rfl (TC.cond (r2 != 0) rfl Kr (fun h2=>?_) (fun h2=>?_))))))))))
    · exact TC.sr (TL.r 2 [] [(23,Zf.v Zf.zero),(24,.i r2)] {} (TL.s 0 (Bk b3 (Zf.c Zf.zero) 42) (fun _=>{}) (TL.r 4 [] [(5,.i r2)] {} (TL.next rfl (TC.ret (TE.rt (TE.ret [0] (.tuple #[Zf.v (⟨0,⟨0,0⟩,0,0,0⟩:Zf),.i r2]) {} (by unfold ZG;refine eS (a:=((⟨0,⟨0,0⟩,0,0,0⟩:Zf),r2)) (fun (z:Zf × Int)=>(.tuple #[Zf.v z.1,.i z.2]:Value)) ?_;subst hr1 hr2;exact Zb h1 (Zi h2 (rfl))))))))))
    · refine TC.sn (TC.seq (TC.sr (TL.r 5 [1,2] [(29,.b (p.Radar != s.ID))] {} (TL.next rfl (TC.cond (p.Radar != s.ID) rfl Kr (fun h3=>?_) (fun h3=>?_))))))
      · exact TC.sr (TL.r 1 [] [(30,Zf.v Zf.zero)] {} (TL.s 0 (Bk b3 (Zf.c Zf.zero) 42) (fun _=>{}) (TL.r 3 [] [(5,.i 1)] {} (TL.next rfl (TC.ret (TE.rt (TE.ret [0] (.tuple #[Zf.v (⟨0,⟨0,0⟩,0,0,0⟩:Zf),.i 1]) {} (by unfold ZG;refine eS (a:=((⟨0,⟨0,0⟩,0,0,0⟩:Zf),1)) (fun (z:Zf × Int)=>(.tuple #[Zf.v z.1,.i z.2]:Value)) ?_;subst hr1 hr2;exact Zb h1 (Zb h2 (Zi h3 (rfl)))))))))))
      · refine TC.snr (TL.r 4 [1,1] [(33,.i p.Azimuth),(35,.i p.Range)] {} (TL.c 36 (Q6 p.Azimuth p.Range) (fun r3=>.tuple #[P.v r3.1,.i r3.2]) (fun w hM=>H3 p.Azimuth p.Range w (hT.sat hM)) {} (fun r3 hr3=>TL.r 8 [] [(37,P.v r3.1),(38,.i r3.2)] {} (TL.nw 8 (fun b4=>.p0 b4) (fun b4=>Bk b4 (P.c P.zero) 36) (fun b4=>{}) (fun b4=>TL.s 0 (Bk b4 (P.c r3.1) 36) (fun _=>{}) (TL.r 11 [] [] {} (TL.nr (TL.r 3 [3,2] [(40,Zh.v s),(42,.i p.Range)] {} (TL.c 43 (Qo s p.Range) (fun r4=>.tuple #[.i r4.1,.i r4.2]) (fun w _=>HV s p.Range w) {} (fun r4 hr4=>TL.r 9 [] [(10,.i r4.1)] {} (TL.ns ?_)))))))))))
        obtain ⟨r5,hr5⟩:∃ r,Qp s.At r3.1=r:=⟨_,rfl⟩
        let Mr11_:Mem:=[Bk b4 (P.c r3.1) 36,Bk b3 (Zf.c Zf.zero) 42,Bk b2 (Zl.c p) 89,Bk b1 (Zh.c s) 85]
        refine TC.plan (G:=Nat) (base:=[(2,.p0 b1),(3,.p0 b2),(4,.p0 b3),(8,.p0 b4),(10,.i r4.1)]) (vals:=fun γ=>[.pt b2 1,.i p.Time,.pt b1 1,P.v s.At,P.v r3.1,P.v r5,.pt b2 4,.i p.Height,.pt b2 5,.i p.Code,.i r4.1,Zf.v (⟨p.Time,r5,p.Height,p.Code,r4.1⟩:Zf),.p0 γ,undef]) (writes:=[12,13]) (mem:=fun bs γ=>match bs with | [x12_,x13_]=>(bif x13_ then [Bk γ (Zf.c (⟨p.Time,r5,p.Height,p.Code,r4.1⟩:Zf)) 42] else bif x12_ then [Bk γ (Zf.c Zf.zero) 42] else []) ++ (Mr11_) | _=>[]) (0) (fun γ=>[(4,.p0 b3),(10,.i r4.1),(12,.p0 γ)]) Kr Kr Kr Kr Kr (fun γ=>Kr) (fun _ hM=>hM) (fun γ=>Kr) ?_ ?_
        · skip
          exact Steps.run (i:=0) 5 [0,2,0,3,0] Mr11_ Kr Kr (fun S (γ:Nat) w hM=>by rw [mS2 rfl rfl] at hM;exact hM.sub (Zj (List.Sublist.refl _))) Kr (fun (γ:Nat)=>{}) (Steps.call (i:=5) 96 (fun (γ:Nat)=>#[P.v s.At,P.v r3.1]) (some 51) (fun (γ:Nat)=>P.v r5) (fun (γ:Nat)=>[Bk b4 (P.c r3.1) 36,Bk b3 (Zf.c Zf.zero) 42,Bk b2 (Zl.c p) 89,Bk b1 (Zh.c s) 85]) Kr (fun S (γ:Nat) w _ hM=>by rw [mS2 rfl rfl] at hM;exact hM.sub (Zj (List.Sublist.refl _))) (fun (γ:Nat) w _=>by have h:=Wa s.At r3.1 w;rw [hr5] at h;exact h) (fun (γ:Nat)=>Kr) (fun (γ:Nat)=>Kr) (Steps.run (i:=6) 12 [0,2,0,2,0,0] Mr11_ Kr Kr (fun S (γ:Nat) w hM=>by rw [mS2 rfl rfl] at hM;exact hM.sub (Zj (List.Sublist.refl _))) Kr (fun (γ:Nat)=>{}) (Steps.op (i:=12) (Γ:=Nat) (fun g (γ:Nat)=>g) (fun _=>[]) (fun b (γ:Nat)=>[Bk b (Zf.c Zf.zero) 42]) (fun S (γ:Nat)=>Mr11_) [12,13] (fun (γ:Nat)=>sV (Instr.alloc 42 true (.tuple #[]))) (some 12) (fun b (γ:Nat)=>.p0 b) (fun S (γ:Nat) hj hd hl=>by rw [mS2 hj (hl 13 Kr)];exact List.Perm.refl _) (fun S (γ:Nat) g hl=>by rw [mS2 (S:=upS S 12) (a0:=12) (a1:=13) rfl (hl 13 Kr)];exact (List.Perm.refl _).symm) (fun (γ:Nat) M' w hM=>Qx (v:=fun b=>.p0 b) (fun b M=>Kr) M' w hM) (fun (γ:Nat)=>Kr) (fun (γ:Nat) g=>Kr) Kr (fun (γ:Nat) g=>Kr) (Steps.put (i:=13) (fun (γ:Nat)=>[Bk γ (Zf.c Zf.zero) 42]) (fun (γ:Nat)=>[Bk γ (Zf.c (⟨p.Time,r5,p.Height,p.Code,r4.1⟩:Zf)) 42]) (fun S (γ:Nat)=>Mr11_) (fun (γ:Nat)=>sU (Instr.storeAt 42 (.p0 γ) (Zf.v (⟨p.Time,r5,p.Height,p.Code,r4.1⟩:Zf)))) none (fun S (γ:Nat) hj hd hl=>by rw [mS2 (hd 12 Kr) hj];exact List.Perm.refl _) (fun S (γ:Nat) _=>(List.Perm.refl _).symm) (fun (γ:Nat) M' w hM=>QP (fun b M=>Kr) (fun b M=>Kr) M' w hM) (fun (γ:Nat)=>Kr) (fun (γ:Nat)=>Kr) (Steps.done Kr)))))
        · rintro b5
          refine TE.conv [Bk b5 (Zf.c (⟨p.Time,r5,p.Height,p.Code,r4.1⟩:Zf)) 42,Bk b4 (P.c r3.1) 36,Bk b3 (Zf.c Zf.zero) 42,Bk b2 (Zl.c p) 89,Bk b1 (Zh.c s) 85] (fun _ hM=>hM) (TE.next (TC.seq (TC.sr (TL.r 2 [0] [(59,P.v r5)] {} (TL.c 60 (Yf r5) (fun r6=>.i r6) (fun w _=>JV r5 w) {} (fun r6 hr6=>TL.r 5 [] [(62,.b (r6 != 0))] {} (TL.j 62 (r6 != 0) 8 [] [] (fun β=>[(65,.b (β || (decide (r4.1 > 1000000))))]) Kr {} {} (TL.next rfl (TC.cond ((r6 != 0) || (decide (r4.1 > 1000000))) rfl Kr (fun h4=>?_) (fun h4=>?_))))))))))
          · exact TC.sr (TL.r 1 [] [(66,Zf.v Zf.zero)] {} (TL.s 2 (Bk b3 (Zf.c Zf.zero) 42) (fun _=>{}) (TL.r 3 [] [(5,.i 8)] {} (TL.next rfl (TC.ret (TE.rt (TE.ret [2] (.tuple #[Zf.v (⟨0,⟨0,0⟩,0,0,0⟩:Zf),.i 8]) {} (by unfold ZG;refine eS (a:=((⟨0,⟨0,0⟩,0,0,0⟩:Zf),8)) (fun (z:Zf × Int)=>(.tuple #[Zf.v z.1,.i z.2]:Value)) ?_;subst hr1 hr2 hr3 hr4 hr5 hr6;exact Zb h1 (Zb h2 (Zb h3 (Zi h4 (rfl))))))))))))
          · exact TC.snr (TL.r 1 [0] [(67,Zf.v (⟨p.Time,r5,p.Height,p.Code,r4.1⟩:Zf))] {} (TL.s 2 (Bk b3 (Zf.c (⟨p.Time,r5,p.Height,p.Code,r4.1⟩:Zf)) 42) (fun _=>{}) (TL.r 3 [] [(5,.i 0)] {} (TL.next rfl (TC.ret (TE.ret [2] (.tuple #[Zf.v (⟨p.Time,r5,p.Height,p.Code,r4.1⟩:Zf),.i 0]) {} (by unfold ZG;refine eS (a:=((⟨p.Time,r5,p.Height,p.Code,r4.1⟩:Zf),0)) (fun (z:Zf × Int)=>(.tuple #[Zf.v z.1,.i z.2]:Value)) ?_;subst hr1 hr2 hr3 hr4 hr5 hr6;exact Zb h1 (Zb h2 (Zb h3 (Zb h4 (rfl)))))))))))
def Z3 (s:Zh) (t:Zf):Zl × Int :=
  let r1:=Yc s
  cond (r1 != 0) (
    ((⟨0,0,0,0,0,0⟩:Zl),r1)) (
    let r2:=Zy t
    cond (r2 != 0) (
      ((⟨0,0,0,0,0,0⟩:Zl),r2)) (
      let r3:=ZQ s.At t.At s.Reach
      cond (!r3) (
        ((⟨0,0,0,0,0,0⟩:Zl),8)) (
        let r4:=XU s.At t.At
        cond (!(P.eqb s.At t.At)) (
          let r5:=Qz t.At s.At
          let r6:=(ofF r5).1
          ((⟨s.ID,t.Time,r4.1,r6,t.Height,t.Code⟩:Zl),0)) (
          ((⟨s.ID,t.Time,r4.1,0,t.Height,t.Code⟩:Zl),0)))))
set_option maxHeartbeats 4000000 in
set_option maxRecDepth 100000 in
theorem DF (s:Zh) (t:Zf) (w:World) (hT:Ua w):Calls Tryz.prog 32 #[Zh.v s,Zf.v t] w (Ret w (.tuple #[Zl.v ((Z3 s t).1),.int .i64 ((Z3 s t).2)])):=by
  refine Zk (vs:=[Zh.v s,Zf.v t]) (w:=w) Tryz.func32 rfl Tryz.ntmps32 rfl (TC.sr (TL.nw 2 (fun b1=>.p0 b1) (fun b1=>Bk b1 (Zh.c s) 85) (fun b1=>{}) (fun b1=>TL.nw 3 (fun b2=>.p0 b2) (fun b2=>Bk b2 (Zf.c t) 42) (fun b2=>{}) (fun b2=>TL.nw 4 (fun b3=>.p0 b3) (fun b3=>Bk b3 (Zl.c Zl.zero) 89) (fun b3=>{}) (fun b3=>TL.r 4 [] [(5,.i 0)] {} (TL.ns (TC.sr (TL.r 1 [2] [(11,Zh.v s)] {} (TL.c 12 (Yc s) (fun r1=>.i r1) (fun w _=>Kp s w) {} (fun r1 hr1=>TL.r 3 [] [(6,.i r1)] {} (TL.nr (TL.r 2 [] [(14,.b (r1 != 0))] {} (TL.next rfl (TC.cond (r1 != 0) rfl Kr (fun h1=>?_) (fun h1=>?_)))))))))))))))
  · exact TC.sr (TL.r 2 [] [(15,Zl.v Zl.zero),(16,.i r1)] {} (TL.s 0 (Bk b3 (Zl.c Zl.zero) 89) (fun _=>{}) (TL.r 4 [] [(5,.i r1)] {} (TL.next rfl (TC.ret (TE.rt (TE.ret [0] (.tuple #[Zl.v (⟨0,0,0,0,0,0⟩:Zl),.i r1]) {} (by unfold Z3;refine eS (a:=((⟨0,0,0,0,0,0⟩:Zl),r1)) (fun (z:Zl × Int)=>(.tuple #[Zl.v z.1,.i z.2]:Value)) ?_;subst hr1;exact Zi h1 (rfl)))))))))
  · refine TC.sn (TC.seq (TC.sr (TL.r 1 [1] [(17,Zf.v t)] {} (TL.c 18 (Zy t) (fun r2=>.i r2) (fun w _=>Xl t w) {} (fun r2 hr2=>TL.r 3 [] [(7,.i r2)] {} (TL.nr (TL.r 2 [] [(20,.b (r2 != 0))] {} (TL.next rfl (TC.cond (r2 != 0) rfl Kr (fun h2=>?_) (fun h2=>?_))))))))))
    · exact TC.sr (TL.r 2 [] [(21,Zl.v Zl.zero),(22,.i r2)] {} (TL.s 0 (Bk b3 (Zl.c Zl.zero) 89) (fun _=>{}) (TL.r 4 [] [(5,.i r2)] {} (TL.next rfl (TC.ret (TE.rt (TE.ret [0] (.tuple #[Zl.v (⟨0,0,0,0,0,0⟩:Zl),.i r2]) {} (by unfold Z3;refine eS (a:=((⟨0,0,0,0,0,0⟩:Zl),r2)) (fun (z:Zl × Int)=>(.tuple #[Zl.v z.1,.i z.2]:Value)) ?_;subst hr1 hr2;exact Zb h1 (Zi h2 (rfl))))))))))
    · refine TC.sn (TC.seq (TC.sr (TL.r 6 [2,1,2] [(24,P.v s.At),(26,P.v t.At),(28,.i s.Reach)] {} (TL.c 29 (ZQ s.At t.At s.Reach) (fun r3=>.b r3) (fun w _=>QH s.At t.At s.Reach w) {} (fun r3 hr3=>TL.r 8 [] [(30,.b (!r3))] {} (TL.next rfl (TC.cond (!r3) rfl Kr (fun h3=>?_) (fun h3=>?_))))))))
      · exact TC.sr (TL.r 1 [] [(31,Zl.v Zl.zero)] {} (TL.s 0 (Bk b3 (Zl.c Zl.zero) 89) (fun _=>{}) (TL.r 3 [] [(5,.i 8)] {} (TL.next rfl (TC.ret (TE.rt (TE.ret [0] (.tuple #[Zl.v (⟨0,0,0,0,0,0⟩:Zl),.i 8]) {} (by unfold Z3;refine eS (a:=((⟨0,0,0,0,0,0⟩:Zl),8)) (fun (z:Zl × Int)=>(.tuple #[Zl.v z.1,.i z.2]:Value)) ?_;subst hr1 hr2 hr3;exact Zb h1 (Zb h2 (Zi h3 (rfl)))))))))))
      · refine TC.snr (TL.r 4 [2,1] [(34,P.v s.At),(36,P.v t.At)] {} (TL.c 37 (XU s.At t.At) (fun r4=>.tuple #[.i r4.1,.i r4.2]) (fun w _=>GP s.At t.At w) {} (fun r4 hr4=>TL.r 10 [] [(8,.i r4.1)] {} (TL.nr (TL.r 10 [2,1,1,1] [(49,Zl.v (⟨s.ID,t.Time,r4.1,0,t.Height,t.Code⟩:Zl))] {} (TL.nw 10 (fun b4=>.p0 b4) (fun b4=>Bk b4 (Zl.c Zl.zero) 89) (fun b4=>{}) (fun b4=>TL.s 0 (Bk b4 (Zl.c (⟨s.ID,t.Time,r4.1,0,t.Height,t.Code⟩:Zl)) 89) (fun _=>{}) (TL.ns (TC.sr (TL.r 4 [3,2] [(51,P.v s.At),(53,P.v t.At)] {} (TL.v (sV (do eqGuard .neq 36 (.tmp 51) (.tmp 53) (P.v s.At) (P.v t.At);binOp .neq 36 (P.v s.At) (P.v t.At))) 54 (.b (!(P.eqb s.At t.At))) (fun w hM=>MV (b:=P.eqb s.At t.At) Kr Kr w) {} (TL.next rfl (TC.cond (!(P.eqb s.At t.At)) rfl Kr (fun h4=>?_) (fun h4=>?_))))))))))))))
        · refine TC.region (TL.r 4 [2,3] [(57,P.v t.At),(59,P.v s.At)] {} (TL.c 60 (Qz t.At s.At) (fun r5=>P.v r5) (fun w _=>GZ t.At s.At w) {} (fun r5 hr5=>TL.callM (Γ:=Int × Int) (fun g=>.tuple #[.i g.1,.i g.2]) (fun g=>[.inr (X8 (g.1=(ofF r5).1 ∧ g.2=(ofF r5).2))]) [] [Bk b4 (Zl.c (⟨s.ID,t.Time,r4.1,0,t.Height,t.Code⟩:Zl)) 89,Bk b3 (Zl.c Zl.zero) 89,Bk b2 (Zf.c t) 42,Bk b1 (Zh.c s) 85] (some 61) (fun g=>[(4,.p0 b3),(10,.p0 b4),(61,.tuple #[.i g.1,.i g.2])]) (fun w hM=>MB r5 w hM.pass (hT.sat hM)) Kr (fun g=>Kr) ?_)))
          rintro ⟨r6,r7⟩
          refine TL.conv [.inr (X8 (r6=(ofF r5).1 ∧ r7=(ofF r5).2)),Bk b4 (Zl.c (⟨s.ID,t.Time,r4.1,0,t.Height,t.Code⟩:Zl)) 89,Bk b3 (Zl.c Zl.zero) 89,Bk b2 (Zf.c t) 42,Bk b1 (Zh.c s) 85] (fun _ hM=>hM) (TL.know (fun w hM=>hM.fact_at 0 rfl) (fun hp_angle_Of=>TL.forget [Bk b4 (Zl.c (⟨s.ID,t.Time,r4.1,0,t.Height,t.Code⟩:Zl)) 89,Bk b3 (Zl.c Zl.zero) 89,Bk b2 (Zf.c t) 42,Bk b1 (Zh.c s) 85] (.cons _ (List.Sublist.refl _)) ?_))
          have hr6:(ofF r5).1=r6:=(hp_angle_Of.1).symm
          have hr7:(ofF r5).2=r7:=(hp_angle_Of.2).symm
          exact TL.r 10 [] [(62,.i r6),(64,.pt b4 3)] {} (TL.s 0 (Bk b4 (Zl.c (⟨s.ID,t.Time,r4.1,r6,t.Height,t.Code⟩:Zl)) 89) (fun _=>{}) (TL.nr (TL.r 1 [0] [(65,Zl.v (⟨s.ID,t.Time,r4.1,r6,t.Height,t.Code⟩:Zl))] {} (TL.s 1 (Bk b3 (Zl.c (⟨s.ID,t.Time,r4.1,r6,t.Height,t.Code⟩:Zl)) 89) (fun _=>{}) (TL.r 3 [] [(5,.i 0)] {} (TL.next rfl (TC.ret (TE.ret [1] (.tuple #[Zl.v (⟨s.ID,t.Time,r4.1,r6,t.Height,t.Code⟩:Zl),.i 0]) {} (by unfold Z3;refine eS (a:=((⟨s.ID,t.Time,r4.1,r6,t.Height,t.Code⟩:Zl),0)) (fun (z:Zl × Int)=>(.tuple #[Zl.v z.1,.i z.2]:Value)) ?_;subst hr1 hr2 hr3 hr4 hr5 hr6 hr7;exact Zb h1 (Zb h2 (Zb h3 (Zi h4 (rfl)))))))))))))
        · exact TC.snr (TL.r 1 [0] [(65,Zl.v (⟨s.ID,t.Time,r4.1,0,t.Height,t.Code⟩:Zl))] {} (TL.s 1 (Bk b3 (Zl.c (⟨s.ID,t.Time,r4.1,0,t.Height,t.Code⟩:Zl)) 89) (fun _=>{}) (TL.r 3 [] [(5,.i 0)] {} (TL.next rfl (TC.ret (TE.ret [1] (.tuple #[Zl.v (⟨s.ID,t.Time,r4.1,0,t.Height,t.Code⟩:Zl),.i 0]) {} (by unfold Z3;refine eS (a:=((⟨s.ID,t.Time,r4.1,0,t.Height,t.Code⟩:Zl),0)) (fun (z:Zl × Int)=>(.tuple #[Zl.v z.1,.i z.2]:Value)) ?_;subst hr1 hr2 hr3 hr4;exact Zb h1 (Zb h2 (Zb h3 (Zb h4 (rfl)))))))))))
end Go.Sky
end
section
namespace Go.Sky
open Go Go.Eng
def Eu (k:Nat):Bool:=decide (268412285 ≤ sn k * sn k + cs k * cs k) && decide (sn k * sn k + cs k * cs k ≤ 268458627) &&
  decide ((sn k - sn (k + 1)) * (sn k - sn (k + 1)) + (cs k - cs (k + 1)) * (cs k - cs (k + 1)) ≤ 729)
def H4 (k j:Nat):Bool:=decide (423801 * ((sn k - sn (k + j)) * (sn k - sn (k + j)) + (cs k - cs (k + j)) * (cs k - cs (k + j))) ≤ (16384 * ((j:Int) + 1) - 10416) * (16384 * ((j:Int) + 1) - 10416))
def GQ (f:Nat → Bool) (a:Nat):Nat → Bool
  | 0=>true
  | n + 1=>f a && GQ f (a + 1) n
theorem Rj (f:Nat → Bool) (a n:Nat):GQ f a (n + 1)=(f a && GQ f (a + 1) n):=rfl
theorem K6 (f:Nat → Bool) (n:Nat):∀ a,GQ f a n=true → ∀ k,a ≤ k → k < a + n → f k=true:=by
  induction n with
  | zero=>intro a _ k h1 h2;omega
  | succ n ih =>
    intro a h k h1 h2
    rw [Rj,Bool.and_eq_true] at h
    by_cases he:a=k
    · rw [← he];exact h.1
    · exact ih (a + 1) h.2 k (by omega) (by omega)
set_option maxRecDepth 100000
theorem Oz:GQ Eu 0 1024=true:=by kernel_rfl
theorem Py:GQ (fun k=>GQ (H4 k) 0 100) 0 256=true:=by kernel_rfl
theorem Pz:GQ (fun k=>GQ (H4 k) 0 100) 256 256=true:=by kernel_rfl
theorem P0:GQ (fun k=>GQ (H4 k) 0 100) 512 256=true:=by kernel_rfl
theorem P1:GQ (fun k=>GQ (H4 k) 0 100) 768 256=true:=by kernel_rfl
end Go.Sky
end
