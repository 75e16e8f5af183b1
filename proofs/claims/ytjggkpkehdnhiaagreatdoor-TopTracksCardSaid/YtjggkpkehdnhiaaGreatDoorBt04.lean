/- Lemmas toward the given statement (part 4 of 22): Geo Crs Trk Wd PlanB. Each theorem states its own conditions; nothing is assumed beyond them. -/
import Derived.Test.YtjggkpkehdnhiaaGreatDoorBt03
import Derived.Test.YtjggkpkehdnhiaaGreatDoorBt02
section
namespace Go.Sky
open Go Go.Eng
theorem Jh {a b:Int} (hb:0 < b) (ha:-9223372036854775807 ≤ a ∧ a ≤ 9223372036854775807):Xm a b=(a / b,0):=by
  unfold Xm
  have e0:(b == 0)=false:=by simp;omega
  have e1:(a == (-9223372036854775808))=false:=by simp;omega
  have e2:decide (b < 0)=false:=by simp;omega
  simp only [e0,e1,e2,Bool.false_and,cond_false]
  by_cases h:0 ≤ a
  · have e3:decide (a < 0)=false:=by simp;omega
    have hw:w64 (a / b)=a / b:=Zm (by have:=UV h hb;omega)
    simp [e3,VQ b h,hw]
  · have e3:decide (a < 0)=true:=by simp;omega
    have hq:=UV (a:=-a) (b:=b) (by omega) hb
    have hm:a=b * (a / b) + a % b:=(Int.mul_ediv_add_emod a b).symm
    have hn:-a=b * (-a / b) + -a % b:=(Int.mul_ediv_add_emod (-a) b).symm
    have r1:=Int.emod_nonneg a (show b ≠ 0 by omega)
    have r2:=Int.emod_lt_of_pos a hb
    have r3:=Int.emod_nonneg (-a) (show b ≠ 0 by omega)
    have r4:=Int.emod_lt_of_pos (-a) hb
    rw [e3,RR b (by omega),RU b (by omega),Zm (x:=-(-a / b)) (by omega)]
    by_cases hz:-a % b=0
    · have:a / b=-(-a / b):=by
        have h1:a=b * (-(-a / b)):=by rw [Int.mul_neg];omega
        have h2:a / b=-(-a / b):=by
          conv=>lhs;rw [h1]
          exact Int.mul_ediv_cancel_left _ (by omega)
        exact h2
      have e4:((-(-a % b)) != 0)=false:=by rw [hz];rfl
      rw [e4]
      simp only [Bool.false_and,cond_false,this]
    · have e4:((-(-a % b)) != 0)=true:=by simp;omega
      rw [e4]
      have e5:(true && !(true == false))=true:=rfl
      rw [e5,cond_true]
      have:a / b=-(-a / b) - 1:=by
        rw [Int.ediv_eq_iff_of_pos hb]
        rw [Int.mul_comm]
        constructor
        · rw [Int.mul_sub,Int.mul_neg];omega
        · rw [Int.mul_sub,Int.mul_neg];omega
      rw [Zm (by omega),this]
theorem KC {a b:Int} (hb:0 < b) (ha:-9223372036854775807 ≤ a ∧ a ≤ 9223372036854775806):X1 a b=(-(-a / b),0):=by
  unfold X1
  simp only [Jh hb (show -9223372036854775807 ≤ a ∧ a ≤ 9223372036854775807 by omega),beq_self_eq_true,cond_true]
  have hm:a=b * (a / b) + a % b:=(Int.mul_ediv_add_emod a b).symm
  have r1:=Int.emod_nonneg a (show b ≠ 0 by omega)
  have r2:=Int.emod_lt_of_pos a hb
  have hz:a.tmod b=0 ↔ a % b=0:=by
    rw [← Int.dvd_iff_tmod_eq_zero,← Int.dvd_iff_emod_eq_zero]
  have hle:a / b ≤ 9223372036854775806 ∧ -9223372036854775807 ≤ a / b:=by
    by_cases h:0 ≤ a
    · have:=UV h hb;omega
    · have h1:a ≤ a / b:=by
        rw [Int.le_ediv_iff_mul_le hb]
        have:a * b ≤ a * 1:=Int.mul_le_mul_of_nonpos_left (by omega) (by omega)
        omega
      have h2:a / b < 0:=Int.ediv_neg_of_neg_of_pos (by omega) hb
      omega
  by_cases h:a % b=0
  · have e:(a.tmod b != 0)=false:=by simpa using hz.2 h
    rw [e,cond_false]
    congr 1
    have h1:-a=b * (-(a / b)):=by rw [Int.mul_neg];omega
    have h2:-a / b=-(a / b):=by
      conv=>lhs;rw [h1]
      exact Int.mul_ediv_cancel_left _ (by omega)
    omega
  · have e:(a.tmod b != 0)=true:=by simpa using fun hh=>h (hz.1 hh)
    rw [e,cond_true,Zm (by omega)]
    congr 1
    have h2:-a / b=-(a / b) - 1:=by
      rw [Int.ediv_eq_iff_of_pos hb,Int.mul_comm]
      constructor
      · rw [Int.mul_sub,Int.mul_neg];omega
      · rw [Int.mul_sub,Int.mul_neg];omega
    omega
end Go.Sky
namespace Go.Sky
open Go Go.Eng Go.Glue
def P.In (p:P):Prop:=-1000000 ≤ p.X ∧ p.X ≤ 1000000 ∧ -1000000 ≤ p.Y ∧ p.Y ≤ 1000000
def Zf.In (s:Zf):Prop:=(0 ≤ s.Time ∧ s.Time ≤ 200000) ∧ s.At.In ∧ (0 ≤ s.Height ∧ s.Height ≤ 60000) ∧ (-1 ≤ s.Code ∧ s.Code ≤ 4095) ∧ (0 ≤ s.Error ∧ s.Error ≤ 1000000)
def Track.In (t:Track):Prop:=(0 ≤ t.Time ∧ t.Time ≤ 200000) ∧ t.At.In ∧ (0 ≤ t.Height ∧ t.Height ≤ 60000) ∧ (-1 ≤ t.Code ∧ t.Code ≤ 4095) ∧ (0 ≤ t.Radius ∧ t.Radius ≤ 4000000)
theorem LG {n a b:Int}:ZH n a b=decide (¬ (a ≤ n ∧ n ≤ b)):=by
  unfold ZH;rw [Bool.eq_iff_iff];simp
theorem Bj (p:P):Yf p=0 ∧ p.In ∨ Yf p=4 ∧ ¬ p.In:=by
  unfold Yf P.In
  rw [YV]
  split
  · rename_i h;simp at h;exact .inr ⟨rfl,by omega⟩
  · rename_i h;simp at h;exact .inl ⟨rfl,by omega⟩
theorem N9 {p:P}:Yf p=0 ↔ p.In:=by
  rcases Bj p with ⟨h1,h2⟩ | ⟨h1,h2⟩
  · exact ⟨fun _=>h2,fun _=>h1⟩
  · exact ⟨fun h=>by omega,fun h=>absurd h h2⟩
theorem K2 (s:Zf):Zy s=0 ∧ s.In ∨ Zy s=4 ∧ ¬ s.In:=by
  unfold Zy Zf.In
  simp only [YV,LG,decide_eq_true_eq]
  split
  · exact .inr ⟨rfl,fun h=>by omega⟩
  · rcases Bj s.At with ⟨h1,h2⟩ | ⟨h1,h2⟩
    · rw [h1,if_neg (by simp)]
      split
      · exact .inr ⟨rfl,fun h=>by omega⟩
      · split
        · exact .inr ⟨rfl,fun h=>by omega⟩
        · split
          · exact .inr ⟨rfl,fun h=>by omega⟩
          · exact .inl ⟨rfl,by omega,h2,by omega,by omega,by omega⟩
    · rw [h1,if_pos (by simp)]
      exact .inr ⟨rfl,fun h=>h2 h.2.1⟩
theorem Qm {s:Zf}:Zy s=0 ↔ s.In:=by
  rcases K2 s with ⟨h1,h2⟩ | ⟨h1,h2⟩
  · exact ⟨fun _=>h2,fun _=>h1⟩
  · exact ⟨fun h=>by omega,fun h=>absurd h h2⟩
theorem Vf (t:Track):YE t=0 ∧ t.In ∨ YE t=4 ∧ ¬ t.In:=by
  unfold YE Track.In
  simp only [YV]
  rcases K2 ⟨t.Time,t.At,t.Height,t.Code,0⟩ with ⟨h1,h2⟩ | ⟨h1,h2⟩
  · rw [h1]
    obtain ⟨g1,g2,g3,g4,_⟩:=h2
    split
    · rename_i h;simp at h;exact .inr ⟨rfl,fun hh=>by omega⟩
    · rename_i h;simp at h;exact .inl ⟨rfl,g1,g2,g3,g4,by omega⟩
  · rw [h1,if_pos (by simp)]
    exact .inr ⟨rfl,fun hh=>h2 ⟨hh.1,hh.2.1,hh.2.2.1,hh.2.2.2.1,show (0:Int) ≤ 0 ∧ (0:Int) ≤ 1000000 by decide⟩⟩
theorem VS {x n:Int} (h:-n ≤ x ∧ x ≤ n):0 ≤ x * x ∧ x * x ≤ n * n:=by
  constructor
  · rcases Int.le_total 0 x with h0 | h0
    · exact Int.mul_nonneg h0 h0
    · rw [← Int.neg_mul_neg];exact Int.mul_nonneg (by omega) (by omega)
  · by_cases hx:0 ≤ x
    · exact Int.mul_le_mul h.2 h.2 hx (by omega)
    · have:(-x) * (-x) ≤ n * n:=Int.mul_le_mul (by omega) (by omega) (by omega) (by omega)
      rwa [Int.neg_mul_neg] at this
theorem G8 {p q:P} (hp:p.In) (hq:q.In):ZV p q=(p.X - q.X) * (p.X - q.X) + (p.Y - q.Y) * (p.Y - q.Y) ∧ 0 ≤ ZV p q ∧ ZV p q ≤ 8000000000000:=by
  obtain ⟨p1,p2,p3,p4⟩:=hp
  obtain ⟨q1,q2,q3,q4⟩:=hq
  have b1:=VS (x:=p.X - q.X) (n:=2000000) (by omega)
  have b2:=VS (x:=p.Y - q.Y) (n:=2000000) (by omega)
  have e:ZV p q=(p.X - q.X) * (p.X - q.X) + (p.Y - q.Y) * (p.Y - q.Y):=by
    show w64 (w64 (w64 (p.X - q.X) * w64 (p.X - q.X)) + w64 (w64 (p.Y - q.Y) * w64 (p.Y - q.Y)))=_
    rw [Zm (x:=p.X - q.X) (by omega),Zm (x:=p.Y - q.Y) (by omega),Zm (x:=(p.X - q.X) * (p.X - q.X)) (by omega),Zm (x:=(p.Y - q.Y) * (p.Y - q.Y)) (by omega),Zm (by omega)]
  exact ⟨e,by omega,by omega⟩
theorem RX {a b c d R S:Int} (hR:0 ≤ R) (hS:0 ≤ S) (h1:a * a + b * b ≤ R * R) (h2:c * c + d * d ≤ S * S):(a + c) * (a + c) + (b + d) * (b + d) ≤ (R + S) * (R + S):=by
  have key:a * c + b * d ≤ R * S:=by
    rcases Int.lt_or_le (R * S) (a * c + b * d) with h | h
    · exfalso
      have hRS:0 ≤ R * S:=Int.mul_nonneg hR hS
      have e1:(a * c + b * d) * (a * c + b * d) + (a * d - b * c) * (a * d - b * c)=(a * a + b * b) * (c * c + d * d):=by grind
      have e2:0 ≤ (a * d - b * c) * (a * d - b * c):=by
        rcases Int.le_total 0 (a * d - b * c) with g | g
        · exact Int.mul_nonneg g g
        · rw [← Int.neg_mul_neg];exact Int.mul_nonneg (by omega) (by omega)
      have n1:∀ x:Int,0 ≤ x * x:=fun x=>by
        rcases Int.le_total 0 x with g | g
        · exact Int.mul_nonneg g g
        · rw [← Int.neg_mul_neg];exact Int.mul_nonneg (by omega) (by omega)
      have e3:(a * a + b * b) * (c * c + d * d) ≤ (R * R) * (S * S):=Int.mul_le_mul h1 h2 (by have:=n1 c;have:=n1 d;omega) (n1 R)
      have e4:(R * R) * (S * S)=(R * S) * (R * S):=by grind
      have e5:(R * S + 1) * (R * S + 1) ≤ (a * c + b * d) * (a * c + b * d):=Int.mul_le_mul (by omega) (by omega) (by omega) (by omega)
      have e6:(R * S + 1) * (R * S + 1)=(R * S) * (R * S) + 2 * (R * S) + 1:=by grind
      omega
    · exact h
  have e7:(a + c) * (a + c) + (b + d) * (b + d)=(a * a + b * b) + (c * c + d * d) + 2 * (a * c + b * d):=by grind
  have e8:(R + S) * (R + S)=R * R + S * S + 2 * (R * S):=by grind
  omega
theorem within_iff {p q:P} {d:Int} (hp:p.In) (hq:q.In) (hd:-9000000 ≤ d ∧ d ≤ 9000000):ZQ p q d=decide ((0 ≤ d ∧ d ≤ 8000000) ∧ (p.X - q.X) * (p.X - q.X) + (p.Y - q.Y) * (p.Y - q.Y) ≤ d * d):=by
  have hs:=VS hd
  unfold ZQ
  simp only [(G8 hp hq).1,Zm (x:=d * d) (by omega)]
  by_cases h:0 ≤ d ∧ d ≤ 8000000
  · have e:((decide (d ≥ 0)) && (decide (d ≤ 8000000)))=true:=by simp;omega
    rw [e,cond_true,Bool.eq_iff_iff];simp only [decide_eq_true_eq]
    exact ⟨fun g=>⟨h,g⟩,fun g=>g.2⟩
  · have e:((decide (d ≥ 0)) && (decide (d ≤ 8000000)))=false:=by simp;omega
    rw [e,cond_false]
    exact (decide_eq_false (fun g=>h g.1)).symm
end Go.Sky
namespace Go.Sky
open Go Go.Eng Go.Glue
def Za.In (f:Za):Prop :=
  f.Track.In ∧ (-12800 ≤ f.Track.Speed.X ∧ f.Track.Speed.X ≤ 12800) ∧ (-12800 ≤ f.Track.Speed.Y ∧ f.Track.Speed.Y ≤ 12800) ∧ (-3200 ≤ f.Track.Rate ∧ f.Track.Rate ≤ 3200) ∧ (0 ≤ f.Slack ∧ f.Slack ≤ 409600)
    ∧ (0 ≤ f.Track.ID ∧ 0 ≤ f.Track.Hits ∧ 0 ≤ f.Track.Misses) ∧ (0 ≤ f.Track.State ∧ f.Track.State ≤ 2) ∧ f.Last.In ∧ f.Last.Time ≤ f.Track.Time
theorem JL {n a b:Int}:ZX n a b=decide (¬ (a ≤ n ∧ n ≤ b)):=by
  unfold ZX;rw [Bool.eq_iff_iff];simp
theorem F4 (f:Za):Z1 f=0 ∧ f.In ∨ (Z1 f=1 ∨ Z1 f=4 ∨ Z1 f=12) ∧ ¬ f.In:=by
  unfold Z1 Za.In
  simp only [YV,JL,decide_eq_true_eq]
  rcases Vf f.Track with ⟨h1,h2⟩ | ⟨h1,h2⟩
  · rw [h1,if_neg (by simp)]
    split
    · exact .inr ⟨by simp,fun h=>by omega⟩
    · split
      · exact .inr ⟨by simp,fun h=>by omega⟩
      · split
        · exact .inr ⟨by simp,fun h=>by omega⟩
        · split
          · rename_i h;simp at h;exact .inr ⟨by simp,fun h=>by omega⟩
          · rename_i h7;simp at h7
            split
            · exact .inr ⟨by simp,fun h=>by omega⟩
            · rcases K2 f.Last with ⟨h3,h4⟩ | ⟨h3,h4⟩
              · rw [h3,if_neg (by simp)]
                split
                · exact .inr ⟨by simp,fun h=>by omega⟩
                · exact .inl ⟨rfl,h2,by omega,by omega,by omega,by omega,by omega,by omega,h4,by omega⟩
              · rw [h3,if_pos (by simp)]
                exact .inr ⟨by simp,fun h=>h4 h.2.2.2.2.2.2.2.1⟩
  · rw [h1,if_pos (by simp)]
    exact .inr ⟨by simp,fun h=>h2 h.1⟩
theorem XW {f:Za}:Z1 f=0 ↔ f.In:=by
  rcases F4 f with ⟨h1,h2⟩ | ⟨h1,h2⟩
  · exact ⟨fun _=>h2,fun _=>h1⟩
  · exact ⟨fun h=>by omega,fun h=>absurd h h2⟩
theorem NA {f:Za} {t a:Int} (h:(Zq f t a).2=0):(Zq f t a).1.In:=by
  unfold Zq at h ⊢
  simp only [YV] at h ⊢
  by_cases h1:(Z1 f != 0)=true
  · rw [if_pos h1] at h;simp at h h1;exact absurd h h1
  · rw [if_neg h1] at h ⊢
    have hc:f.In:=XW.1 (by simpa using h1)
    by_cases h2:ZX t 0 200000=true
    · rw [if_pos h2] at h;cases h
    · rw [if_neg h2] at h ⊢
      by_cases h3:ZX a 0 20=true
      · rw [if_pos h3] at h;cases h
      · rw [if_neg h3] at h ⊢
        by_cases h4:ZX (w64 (t - f.Track.Time)) 0 600=true
        · rw [if_pos h4] at h;cases h
        · rw [if_neg h4] at h ⊢
          by_cases h5:(w64 (t - f.Track.Time) == 0)=true
          · rw [if_pos h5];exact hc
          · rw [if_neg h5] at h ⊢
            generalize hg:(⟨⟨f.Track.ID,f.Track.State,t,Qp f.Track.At ⟨ZT (w64 (f.Track.Speed.X * w64 (t - f.Track.Time))) 16,ZT (w64 (f.Track.Speed.Y * w64 (t - f.Track.Time))) 16⟩,f.Track.Speed,Xn (w64 (f.Track.Height + ZT (w64 (f.Track.Rate * w64 (t - f.Track.Time))) 16)) 0 60000,f.Track.Rate,w64 (f.Track.Radius + (Qr f.Slack a (w64 (t - f.Track.Time))).1),f.Track.Code,f.Track.Hits,f.Track.Misses⟩,w64 (f.Slack + w64 (w64 (16 * a) * w64 (t - f.Track.Time))),f.Last⟩:Za)=g at h ⊢
            by_cases h6:(Z1 g != 0)=true
            · rw [if_pos h6] at h;cases h
            · rw [if_neg h6];exact XW.1 (by simpa using h6)
end Go.Sky
end
section
namespace Go.Sky
open Go Go.Eng Go.Glue
def grow (slack acc d:Int):Int:=-(-(slack * d) / 16) + -(-(acc * d * d) / 2) + 2
def Yo (f:Za) (t acc:Int):Za :=
  ⟨⟨f.Track.ID,f.Track.State,t,⟨f.Track.At.X + f.Track.Speed.X * (t - f.Track.Time) / 16,f.Track.At.Y + f.Track.Speed.Y * (t - f.Track.Time) / 16⟩,f.Track.Speed,
    Xn (f.Track.Height + f.Track.Rate * (t - f.Track.Time) / 16) 0 60000,f.Track.Rate,f.Track.Radius + grow f.Slack acc (t - f.Track.Time),f.Track.Code,f.Track.Hits,f.Track.Misses⟩,
    f.Slack + 16 * acc * (t - f.Track.Time),f.Last⟩
theorem La {a b A B:Int} (ha:-A ≤ a ∧ a ≤ A) (hb:0 ≤ b ∧ b ≤ B):-(A * B) ≤ a * b ∧ a * b ≤ A * B:=by
  have hA:0 ≤ A:=by omega
  have h1:a * b ≤ A * b:=Int.mul_le_mul_of_nonneg_right ha.2 hb.1
  have h2:-A * b ≤ a * b:=Int.mul_le_mul_of_nonneg_right ha.1 hb.1
  have h3:A * b ≤ A * B:=Int.mul_le_mul_of_nonneg_left hb.2 hA
  rw [Int.neg_mul] at h2
  omega
theorem J2 {a b A B:Int} (ha:0 ≤ a ∧ a ≤ A) (hb:0 ≤ b ∧ b ≤ B):0 ≤ a * b ∧ a * b ≤ A * B :=
  ⟨Int.mul_nonneg ha.1 hb.1,Int.mul_le_mul ha.2 hb.2 hb.1 (by omega)⟩
theorem BO {slack acc d:Int} (hs:0 ≤ slack ∧ slack ≤ 409600) (ha:0 ≤ acc ∧ acc ≤ 20) (hd:0 ≤ d ∧ d ≤ 600):2 ≤ grow slack acc d ∧ grow slack acc d ≤ 20000000:=by
  have h1:=J2 hs hd
  have h2:=J2 (J2 ha hd) hd
  unfold grow
  omega
theorem RY {slack acc d:Int} (hs:0 ≤ slack ∧ slack ≤ 409600) (ha:0 ≤ acc ∧ acc ≤ 20) (hd:1 ≤ d ∧ d ≤ 600):Qr slack acc d=(grow slack acc d,0):=by
  have hd0:0 ≤ d ∧ d ≤ 600:=by omega
  have h1:=J2 hs hd0
  have h2:=J2 ha hd0
  have h3:=J2 h2 hd0
  have hg:=BO hs ha hd0
  unfold Qr
  have e1:((((decide (slack < 0)) || (decide (slack > 409600))) || (decide (acc < 0))) || (decide (acc > 20)))=false:=by simp;omega
  have e2:((decide (d < 0)) || (decide (d > 600)))=false:=by simp;omega
  have e3:(d == 0)=false:=by simp;omega
  simp only [e1,e2,e3,cond_false]
  rw [Zm (x:=slack * d) (by omega),Zm (x:=acc * d) (by omega),Zm (x:=acc * d * d) (by omega),KC (by decide) (by omega),KC (by decide) (by omega)]
  unfold grow at hg ⊢
  simp only
  rw [Zm (x:=-(-(slack * d) / 16) + -(-(acc * d * d) / 2)) (by omega),Zm (by omega)]
theorem BP {f:Za} {a:Int} (hf:f.In) (ha:0 ≤ a ∧ a ≤ 20):Zq f f.Track.Time a=(f,0):=by
  have ht:=hf.1.1
  unfold Zq
  simp only [YV,JL,decide_eq_true_eq]
  rw [if_neg (by simp [XW.2 hf]),if_neg (fun hh=>hh ht),if_neg (fun hh=>hh ha),Int.sub_self,show w64 0=0 by decide,if_neg (by decide),if_pos (by decide)]
theorem NB {f:Za} {t a:Int} (hf:f.In) (ht:0 ≤ t ∧ t ≤ 200000) (ha:0 ≤ a ∧ a ≤ 20) (hd:1 ≤ t - f.Track.Time ∧ t - f.Track.Time ≤ 600) :
    ((Zq f t a).2=0 ∧ (Zq f t a).1=Yo f t a ∧ (Yo f t a).In) ∨ ((Zq f t a).2=8 ∧ ¬ (Yo f t a).In):=by
  have hd0:0 ≤ t - f.Track.Time ∧ t - f.Track.Time ≤ 600:=by omega
  have htt:=hf.1.1
  have hx:=hf.1.2.1
  have s1:=La hf.2.1 hd0
  have s2:=La hf.2.2.1 hd0
  have s3:=La hf.2.2.2.1 hd0
  have s4:=J2 ha hd0
  have hh:=hf.1.2.2.1
  have hr:=hf.1.2.2.2.2
  have hg:=BO hf.2.2.2.2.1 ha hd0
  have hsl:=hf.2.2.2.2.1
  unfold P.In at hx
  unfold Zq
  simp only [YV,JL,decide_eq_true_eq]
  rw [if_neg (by simp [XW.2 hf]),if_neg (fun hh=>hh ht),if_neg (fun hh=>hh ha),Zm (x:=t - f.Track.Time) (by omega),if_neg (fun hh=>hh hd0),if_neg (by simp;omega)]
  have k1:ZT (w64 (f.Track.Speed.X * (t - f.Track.Time))) 16=f.Track.Speed.X * (t - f.Track.Time) / 16:=by
    unfold ZT;rw [Zm (by omega),Jh (by decide) (by omega)]
  have k2:ZT (w64 (f.Track.Speed.Y * (t - f.Track.Time))) 16=f.Track.Speed.Y * (t - f.Track.Time) / 16:=by
    unfold ZT;rw [Zm (by omega),Jh (by decide) (by omega)]
  have k3:ZT (w64 (f.Track.Rate * (t - f.Track.Time))) 16=f.Track.Rate * (t - f.Track.Time) / 16:=by
    unfold ZT;rw [Zm (by omega),Jh (by decide) (by omega)]
  have k4:Qp f.Track.At ⟨f.Track.Speed.X * (t - f.Track.Time) / 16,f.Track.Speed.Y * (t - f.Track.Time) / 16⟩=⟨f.Track.At.X + f.Track.Speed.X * (t - f.Track.Time) / 16,f.Track.At.Y + f.Track.Speed.Y * (t - f.Track.Time) / 16⟩:=by
    unfold Qp
    simp only
    rw [Zm (x:=f.Track.At.X + _) (by omega),Zm (x:=f.Track.At.Y + _) (by omega)]
  have k5:16 * a * (t - f.Track.Time)=16 * (a * (t - f.Track.Time)):=Int.mul_assoc ..
  rw [k1,k2,k3,k4,RY hf.2.2.2.2.1 ha hd]
  simp only
  rw [Zm (x:=f.Track.Height + _) (by omega),Zm (x:=f.Track.Radius + _) (by omega),Zm (x:=16 * a) (by omega),Zm (x:=16 * a * _) (by omega),Zm (x:=f.Slack + _) (by omega)]
  have goal:∀ r:Za × Int,r=(if (Z1 (Yo f t a) != 0)=true then (Za.zero,8) else (Yo f t a,0)) → (r.2=0 ∧ r.1=Yo f t a ∧ (Yo f t a).In) ∨ (r.2=8 ∧ ¬ (Yo f t a).In):=by
    rintro r rfl
    rcases F4 (Yo f t a) with ⟨c1,c2⟩ | ⟨c1,c2⟩
    · rw [if_neg (by simp [c1])]
      exact .inl ⟨rfl,rfl,c2⟩
    · rw [if_pos (by simp;omega)]
      exact .inr ⟨rfl,c2⟩
  exact goal _ rfl
def XX (x y R:Int):Prop:=0 ≤ R ∧ x * x + y * y ≤ R * R
theorem XX.add {x y R a b S:Int} (h:XX x y R) (g:XX a b S):XX (x + a) (y + b) (R + S):=⟨by have:=h.1;have:=g.1;omega,RX h.1 g.1 h.2 g.2⟩
theorem XX.mono {x y R S:Int} (h:XX x y R) (hs:R ≤ S):XX x y S:=⟨by have:=h.1;omega,by have:=Int.mul_le_mul hs hs h.1 (by have:=h.1;omega:(0:Int) ≤ S);have:=h.2;omega⟩
theorem XX.scale {x y R k:Int} (h:XX x y R) (hk:0 ≤ k):XX (k * x) (k * y) (k * R):=by
  refine ⟨Int.mul_nonneg hk h.1,?_⟩
  have e1:k * x * (k * x) + k * y * (k * y)=k * k * (x * x + y * y):=by grind
  have e2:k * R * (k * R)=k * k * (R * R):=by grind
  rw [e1,e2]
  exact Int.mul_le_mul_of_nonneg_left h.2 (Int.mul_nonneg hk hk)
theorem XX.unscale {x y R k:Int} (hk:0 < k) (h:XX (k * x) (k * y) (k * R)):XX x y R:=by
  refine ⟨by rcases Int.lt_or_le R 0 with g | g;· have:=Int.mul_neg_of_pos_of_neg hk g;have:=h.1;omega
             · exact g,?_⟩
  have e1:k * x * (k * x) + k * y * (k * y)=k * k * (x * x + y * y):=by grind
  have e2:k * R * (k * R)=k * k * (R * R):=by grind
  have h2:=h.2
  rw [e1,e2] at h2
  exact Int.le_of_mul_le_mul_left h2 (Int.mul_pos hk hk)
theorem XX.box {x y b R:Int} (hx:-b ≤ x ∧ x ≤ b) (hy:-b ≤ y ∧ y ≤ b) (hR:0 ≤ R) (h:2 * (b * b) ≤ R * R):XX x y R:=⟨hR,by have:=VS hx;have:=VS hy;omega⟩
theorem XX.neg {x y R:Int} (h:XX x y R):XX (-x) (-y) R:=⟨h.1,by rw [Int.neg_mul_neg,Int.neg_mul_neg];exact h.2⟩
theorem XX.abs {x y R:Int} (h:XX x y R):(-R ≤ x ∧ x ≤ R) ∧ (-R ≤ y ∧ y ≤ R):=by
  have nn:∀ z:Int,0 ≤ z * z:=fun z=>by
    rcases Int.le_total 0 z with g | g
    · exact Int.mul_nonneg g g
    · rw [← Int.neg_mul_neg];exact Int.mul_nonneg (by omega) (by omega)
  have key:∀ z:Int,z * z ≤ R * R → -R ≤ z ∧ z ≤ R:=by
    intro z hz
    have h0:=h.1
    constructor
    · rcases Int.lt_or_le z (-R) with g | g
      · have:(R + 1) * (R + 1) ≤ (-z) * (-z):=Int.mul_le_mul (by omega) (by omega) (by omega) (by omega)
        rw [Int.neg_mul_neg] at this
        have e:(R + 1) * (R + 1)=R * R + 2 * R + 1:=by grind
        omega
      · exact g
    · rcases Int.lt_or_le R z with g | g
      · have:(R + 1) * (R + 1) ≤ z * z:=Int.mul_le_mul (by omega) (by omega) (by omega) (by omega)
        have e:(R + 1) * (R + 1)=R * R + 2 * R + 1:=by grind
        omega
      · exact g
  have n1:=nn x
  have n2:=nn y
  have h2:=h.2
  exact ⟨key x (by omega),key y (by omega)⟩
structure Run (x v:Nat → P) (accel:Int) (K:Nat):Prop where
  acc:0 ≤ accel ∧ accel ≤ 1000
  vel:∀ k,k ≤ K → (-200 ≤ (v k).X ∧ (v k).X ≤ 200) ∧ (-200 ≤ (v k).Y ∧ (v k).Y ≤ 200)
  pos:∀ k,k ≤ K → (-112000 ≤ (x k).X ∧ (x k).X ≤ 112000) ∧ (-112000 ≤ (x k).Y ∧ (x k).Y ≤ 112000)
  step:∀ k,k < K → (x (k + 1)).X=(x k).X + (v k).X ∧ (x (k + 1)).Y=(x k).Y + (v k).Y
  turn:∀ k,k < K → XX ((v (k + 1)).X - (v k).X) ((v (k + 1)).Y - (v k).Y) accel
theorem Run.veld {x v:Nat → P} {accel:Int} {K:Nat} (h:Run x v accel K) (t:Nat):∀ d:Nat,t + d ≤ K → XX ((v (t + d)).X - (v t).X) ((v (t + d)).Y - (v t).Y) (accel * (d:Int))
  | 0,_=>by
    rw [Nat.add_zero,Int.sub_self,Int.sub_self]
    exact XX.box (b:=0) (by omega) (by omega) (by simp) (by simp)
  | d + 1,hd=>by
    have ih:=Run.veld h t d (by omega)
    have s:=ih.add (h.turn (t + d) (by omega))
    rw [show (v (t + d)).X - (v t).X + ((v (t + d + 1)).X - (v (t + d)).X)=(v (t + d + 1)).X - (v t).X by omega,show (v (t + d)).Y - (v t).Y + ((v (t + d + 1)).Y - (v (t + d)).Y)=(v (t + d + 1)).Y - (v t).Y by omega] at s
    rw [show t + (d + 1)=t + d + 1 by omega,show accel * ((d + 1:Nat):Int)=accel * (d:Int) + accel by rw [Int.natCast_succ,Int.mul_add,Int.mul_one]]
    exact s
theorem Run.ahead {x v:Nat → P} {accel:Int} {K:Nat} (h:Run x v accel K) (t:Nat):∀ d:Nat,t + d ≤ K →
    XX (2 * ((x (t + d)).X - (x t).X - (d:Int) * (v t).X)) (2 * ((x (t + d)).Y - (x t).Y - (d:Int) * (v t).Y)) (accel * (d:Int) * ((d:Int) - 1))
  | 0,_=>by
    rw [Nat.add_zero]
    refine XX.box (b:=0) (by simp) (by simp) (by simp) (by simp)
  | d + 1,hd=>by
    have ih:=Run.ahead h t d (by omega)
    have s:=ih.add ((Run.veld h t d (by omega)).scale (k:=2) (by omega))
    obtain ⟨e1,e2⟩:=h.step (t + d) (by omega)
    rw [show t + (d + 1)=t + d + 1 by omega,e1,e2]
    have f1:2 * ((x (t + d)).X - (x t).X - (d:Int) * (v t).X) + 2 * ((v (t + d)).X - (v t).X)=2 * ((x (t + d)).X + (v (t + d)).X - (x t).X - ((d + 1:Nat):Int) * (v t).X):=by rw [Int.natCast_succ,Int.add_mul];omega
    have f2:2 * ((x (t + d)).Y - (x t).Y - (d:Int) * (v t).Y) + 2 * ((v (t + d)).Y - (v t).Y)=2 * ((x (t + d)).Y + (v (t + d)).Y - (x t).Y - ((d + 1:Nat):Int) * (v t).Y):=by rw [Int.natCast_succ,Int.add_mul];omega
    have f3:accel * (d:Int) * ((d:Int) - 1) + 2 * (accel * (d:Int))=accel * ((d + 1:Nat):Int) * (((d + 1:Nat):Int) - 1):=by rw [Int.natCast_succ];grind
    rw [f1,f2,f3] at s
    exact s
theorem Run.behind {x v:Nat → P} {accel:Int} {K:Nat} (h:Run x v accel K) (t:Nat):∀ d:Nat,t + d ≤ K →
    XX (2 * ((x (t + d)).X - (x t).X - (d:Int) * (v (t + d)).X)) (2 * ((x (t + d)).Y - (x t).Y - (d:Int) * (v (t + d)).Y)) (accel * (d:Int) * ((d:Int) + 1))
  | 0,_=>by
    rw [Nat.add_zero]
    refine XX.box (b:=0) (by simp) (by simp) (by simp) (by simp)
  | d + 1,hd=>by
    have ih:=Run.behind h t d (by omega)
    have s:=ih.add ((h.turn (t + d) (by omega)).neg.scale (k:=2 * ((d:Int) + 1)) (by omega))
    obtain ⟨e1,e2⟩:=h.step (t + d) (by omega)
    rw [show t + (d + 1)=t + d + 1 by omega,e1,e2]
    have f1:2 * ((x (t + d)).X - (x t).X - (d:Int) * (v (t + d)).X) + 2 * ((d:Int) + 1) * -((v (t + d + 1)).X - (v (t + d)).X)=2 * ((x (t + d)).X + (v (t + d)).X - (x t).X - ((d + 1:Nat):Int) * (v (t + d + 1)).X):=by rw [Int.natCast_succ];grind
    have f2:2 * ((x (t + d)).Y - (x t).Y - (d:Int) * (v (t + d)).Y) + 2 * ((d:Int) + 1) * -((v (t + d + 1)).Y - (v (t + d)).Y)=2 * ((x (t + d)).Y + (v (t + d)).Y - (x t).Y - ((d + 1:Nat):Int) * (v (t + d + 1)).Y):=by rw [Int.natCast_succ];grind
    have f3:accel * (d:Int) * ((d:Int) + 1) + 2 * ((d:Int) + 1) * accel=accel * ((d + 1:Nat):Int) * (((d + 1:Nat):Int) + 1):=by rw [Int.natCast_succ];grind
    rw [f1,f2,f3] at s
    exact s
def Knows (f:Za) (p v:P):Prop :=
  XX (f.Track.At.X - p.X) (f.Track.At.Y - p.Y) f.Track.Radius ∧ XX (f.Track.Speed.X - 16 * v.X) (f.Track.Speed.Y - 16 * v.Y) f.Slack
theorem HK {x v:Nat → P} {accel:Int} {K:Nat} (h:Run x v accel K) {f:Za} {t d:Nat} (hk:Knows f (x t) (v t)) (ht:f.Track.Time=(t:Int)) (hd:t + d ≤ K) (hd1:1 ≤ d) :
    Knows (Yo f ((t + d:Nat):Int) accel) (x (t + d)) (v (t + d)):=by
  have e0:((t + d:Nat):Int) - f.Track.Time=(d:Int):=by omega
  have ha:=h.acc
  obtain ⟨k1,k2⟩:=hk
  have vd:=h.veld t d hd
  have xd:=h.ahead t d hd
  constructor
  · unfold Yo
    simp only [e0]
    obtain ⟨rx,hrx⟩:∃ r,r=f.Track.Speed.X * (d:Int) % 16:=⟨_,rfl⟩
    obtain ⟨ry,hry⟩:∃ r,r=f.Track.Speed.Y * (d:Int) % 16:=⟨_,rfl⟩
    have brx:0 ≤ rx ∧ rx ≤ 15:=by omega
    have bry:0 ≤ ry ∧ ry ≤ 15:=by omega
    have b1:=k1.scale (k:=16) (by omega)
    have b2:=k2.scale (k:=(d:Int)) (by omega)
    have b3:XX (-rx) (-ry) 32:=XX.box (b:=15) (by omega) (by omega) (by omega) (by decide)
    have b4:=xd.neg.scale (k:=8) (by omega)
    have b:=((b1.add b2).add b3).add b4
    have q1:f.Track.Speed.X * (d:Int)=16 * (f.Track.Speed.X * (d:Int) / 16) + rx:=by omega
    have q2:f.Track.Speed.Y * (d:Int)=16 * (f.Track.Speed.Y * (d:Int) / 16) + ry:=by omega
    have g1:16 * (f.Track.At.X - (x t).X) + (d:Int) * (f.Track.Speed.X - 16 * (v t).X) + -rx + 8 * -(2 * ((x (t + d)).X - (x t).X - (d:Int) * (v t).X))=16 * (f.Track.At.X + f.Track.Speed.X * (d:Int) / 16 - (x (t + d)).X):=by
      have e:(d:Int) * (f.Track.Speed.X - 16 * (v t).X)=f.Track.Speed.X * (d:Int) - 16 * ((d:Int) * (v t).X):=by grind
      omega
    have g2:16 * (f.Track.At.Y - (x t).Y) + (d:Int) * (f.Track.Speed.Y - 16 * (v t).Y) + -ry + 8 * -(2 * ((x (t + d)).Y - (x t).Y - (d:Int) * (v t).Y))=16 * (f.Track.At.Y + f.Track.Speed.Y * (d:Int) / 16 - (x (t + d)).Y):=by
      have e:(d:Int) * (f.Track.Speed.Y - 16 * (v t).Y)=f.Track.Speed.Y * (d:Int) - 16 * ((d:Int) * (v t).Y):=by grind
      omega
    rw [g1,g2] at b
    refine XX.unscale (k:=16) (by decide) (b.mono ?_)
    unfold grow
    have m1:0 ≤ accel * (d:Int):=Int.mul_nonneg ha.1 (by omega)
    have m2:accel * (d:Int) * ((d:Int) - 1)=accel * (d:Int) * (d:Int) - accel * (d:Int):=by rw [Int.mul_sub,Int.mul_one]
    have m3:(d:Int) * f.Slack=f.Slack * (d:Int):=Int.mul_comm ..
    omega
  · unfold Yo
    simp only [e0]
    have b:=k2.add (vd.neg.scale (k:=16) (by omega))
    have g1:f.Track.Speed.X - 16 * (v t).X + 16 * -((v (t + d)).X - (v t).X)=f.Track.Speed.X - 16 * (v (t + d)).X:=by omega
    have g2:f.Track.Speed.Y - 16 * (v t).Y + 16 * -((v (t + d)).Y - (v t).Y)=f.Track.Speed.Y - 16 * (v (t + d)).Y:=by omega
    rw [g1,g2,show f.Slack + 16 * (accel * (d:Int))=f.Slack + 16 * accel * (d:Int) by rw [Int.mul_assoc]] at b
    exact b
theorem F5 {ax ay bx b_y x y g A B:Int} (hA:XX (ax - x) (ay - y) A) (hB:XX (bx - x) (b_y - y) B) (hg:0 ≤ g ∧ g ≤ 256) :
    XX (ax + (bx - ax) * g / 256 - x) (ay + (b_y - ay) * g / 256 - y) (-(-((256 - g) * A + g * B) / 256) + 2):=by
  obtain ⟨rx,hrx⟩:∃ r,r=(bx - ax) * g % 256:=⟨_,rfl⟩
  obtain ⟨ry,hry⟩:∃ r,r=(b_y - ay) * g % 256:=⟨_,rfl⟩
  have b3:XX (-rx) (-ry) 512:=XX.box (b:=255) (by omega) (by omega) (by omega) (by decide)
  have b:=((hA.scale (k:=256 - g) (by omega)).add (hB.scale (k:=g) hg.1)).add b3
  have g1:(256 - g) * (ax - x) + g * (bx - x) + -rx=256 * (ax + (bx - ax) * g / 256 - x):=by
    have e:(256 - g) * (ax - x) + g * (bx - x)=256 * (ax - x) + (bx - ax) * g:=by grind
    omega
  have g2:(256 - g) * (ay - y) + g * (b_y - y) + -ry=256 * (ay + (b_y - ay) * g / 256 - y):=by
    have e:(256 - g) * (ay - y) + g * (b_y - y)=256 * (ay - y) + (b_y - ay) * g:=by grind
    omega
  rw [g1,g2] at b
  exact XX.unscale (k:=256) (by decide) (b.mono (by omega))
theorem LH {x v:Nat → P} {accel:Int} {K:Nat} (h:Run x v accel K) {t d:Nat} (hd:t + d ≤ K) (hd1:1 ≤ d) {s l:P} {E L:Int} (hs:XX (s.X - (x (t + d)).X) (s.Y - (x (t + d)).Y) E) (hl:XX (l.X - (x t).X) (l.Y - (x t).Y) L) :
    XX (16 * (s.X - l.X) / (d:Int) - 16 * (v (t + d)).X) (16 * (s.Y - l.Y) / (d:Int) - 16 * (v (t + d)).Y) (-(-(16 * (E + L)) / (d:Int)) + 16 * accel * (d:Int) + 2):=by
  have ha:=h.acc
  have hdp:(0:Int) < (d:Int):=by omega
  obtain ⟨rx,hrx⟩:∃ r,r=16 * (s.X - l.X) % (d:Int):=⟨_,rfl⟩
  obtain ⟨ry,hry⟩:∃ r,r=16 * (s.Y - l.Y) % (d:Int):=⟨_,rfl⟩
  have rx0:=Int.emod_nonneg (16 * (s.X - l.X)) (show (d:Int) ≠ 0 by omega)
  have rx1:=Int.emod_lt_of_pos (16 * (s.X - l.X)) hdp
  have ry0:=Int.emod_nonneg (16 * (s.Y - l.Y)) (show (d:Int) ≠ 0 by omega)
  have ry1:=Int.emod_lt_of_pos (16 * (s.Y - l.Y)) hdp
  have qx:=Int.mul_ediv_add_emod (16 * (s.X - l.X)) (d:Int)
  have qy:=Int.mul_ediv_add_emod (16 * (s.Y - l.Y)) (d:Int)
  rw [← hrx] at rx0 rx1 qx
  rw [← hry] at ry0 ry1 qy
  have dd:(2:Int) * ((d:Int) * (d:Int)) ≤ 2 * (d:Int) * (2 * (d:Int)):=by
    have e:2 * (d:Int) * (2 * (d:Int))=4 * ((d:Int) * (d:Int)):=by grind
    have:=Int.mul_nonneg (show (0:Int) ≤ (d:Int) by omega) (show (0:Int) ≤ (d:Int) by omega)
    omega
  have b3:XX (-rx) (-ry) (2 * (d:Int)):=XX.box (b:=(d:Int)) (by omega) (by omega) (by omega) dd
  have b:=(((hs.scale (k:=16) (by omega)).add (hl.neg.scale (k:=16) (by omega))).add ((h.behind t d hd).scale (k:=8) (by omega))).add b3
  have g1:16 * (s.X - (x (t + d)).X) + 16 * -(l.X - (x t).X) + 8 * (2 * ((x (t + d)).X - (x t).X - (d:Int) * (v (t + d)).X)) + -rx=(d:Int) * (16 * (s.X - l.X) / (d:Int) - 16 * (v (t + d)).X):=by
    have e:(d:Int) * (16 * (s.X - l.X) / (d:Int) - 16 * (v (t + d)).X)=(d:Int) * (16 * (s.X - l.X) / (d:Int)) - 16 * ((d:Int) * (v (t + d)).X):=by grind
    omega
  have g2:16 * (s.Y - (x (t + d)).Y) + 16 * -(l.Y - (x t).Y) + 8 * (2 * ((x (t + d)).Y - (x t).Y - (d:Int) * (v (t + d)).Y)) + -ry=(d:Int) * (16 * (s.Y - l.Y) / (d:Int) - 16 * (v (t + d)).Y):=by
    have e:(d:Int) * (16 * (s.Y - l.Y) / (d:Int) - 16 * (v (t + d)).Y)=(d:Int) * (16 * (s.Y - l.Y) / (d:Int)) - 16 * ((d:Int) * (v (t + d)).Y):=by grind
    omega
  rw [g1,g2] at b
  refine XX.unscale hdp (b.mono ?_)
  have u:=Int.mul_ediv_add_emod (-(16 * (E + L))) (d:Int)
  have u0:=Int.emod_nonneg (-(16 * (E + L))) (show (d:Int) ≠ 0 by omega)
  have e1:(d:Int) * (-(-(16 * (E + L)) / (d:Int)) + 16 * accel * (d:Int) + 2)=-((d:Int) * (-(16 * (E + L)) / (d:Int))) + 16 * (accel * (d:Int) * (d:Int)) + 2 * (d:Int):=by grind
  have e2:accel * (d:Int) * ((d:Int) + 1)=accel * (d:Int) * (d:Int) + accel * (d:Int):=by rw [Int.mul_add,Int.mul_one]
  have m1:accel * (d:Int) * 1 ≤ accel * (d:Int) * (d:Int):=Int.mul_le_mul_of_nonneg_left (by omega) (Int.mul_nonneg ha.1 (by omega))
  rw [e1,e2]
  omega
theorem BQ {a b g:Int} (ha:-10000000 ≤ a ∧ a ≤ 10000000) (hb:-10000000 ≤ b ∧ b ≤ 10000000) (hg:0 ≤ g ∧ g ≤ 256):Xk a b g=a + (b - a) * g / 256:=by
  have m:=La (a:=b - a) (A:=20000000) (by omega) hg
  unfold Xk ZT
  rw [Zm (x:=b - a) (by omega),Zm (x:=(b - a) * g) (by omega),Jh (by decide) (by omega)]
  show w64 (a + (b - a) * g / 256)=_
  rw [Zm (by omega)]
theorem Wb {a b g lo hi:Int} (ha:lo ≤ a ∧ a ≤ hi) (hb:lo ≤ b ∧ b ≤ hi) (hg:0 ≤ g ∧ g ≤ 256):lo ≤ a + (b - a) * g / 256 ∧ a + (b - a) * g / 256 ≤ hi:=by
  have l1:(lo - a) * g ≤ (b - a) * g:=Int.mul_le_mul_of_nonneg_right (by omega) hg.1
  have l2:(lo - a) * 256 ≤ (lo - a) * g:=Int.mul_le_mul_of_nonpos_left (by omega) hg.2
  have u1:(b - a) * g ≤ (hi - a) * g:=Int.mul_le_mul_of_nonneg_right (by omega) hg.1
  have u2:(hi - a) * g ≤ (hi - a) * 256:=Int.mul_le_mul_of_nonneg_left hg.2 (by omega)
  omega
theorem PK {A B g M:Int} (hA:0 ≤ A ∧ A ≤ M) (hB:0 ≤ B ∧ B ≤ M) (hg:0 ≤ g ∧ g ≤ 256):(0 ≤ (256 - g) * A + g * B ∧ (256 - g) * A + g * B ≤ 256 * M) ∧ 0 ≤ -(-((256 - g) * A + g * B) / 256) ∧ -(-((256 - g) * A + g * B) / 256) ≤ M:=by
  have h1:0 ≤ (256 - g) * A:=Int.mul_nonneg (by omega) hA.1
  have h2:0 ≤ g * B:=Int.mul_nonneg hg.1 hB.1
  have h3:(256 - g) * A ≤ (256 - g) * M:=Int.mul_le_mul_of_nonneg_left hA.2 (by omega)
  have h4:g * B ≤ g * M:=Int.mul_le_mul_of_nonneg_left hB.2 hg.1
  have h5:(256 - g) * M + g * M=256 * M:=by grind
  omega
theorem Lc {slack acc d S A D:Int} (hs:0 ≤ slack ∧ slack ≤ S) (ha:0 ≤ acc ∧ acc ≤ A) (hd:0 ≤ d ∧ d ≤ D):grow slack acc d ≤ (S * d + 15) / 16 + (A * D * d + 1) / 2 + 2:=by
  have h1:slack * d ≤ S * d:=Int.mul_le_mul_of_nonneg_right hs.2 hd.1
  have h2:acc * d ≤ A * D:=(J2 ha hd).2
  have h3:acc * d * d ≤ A * D * d:=Int.mul_le_mul_of_nonneg_right h2 hd.1
  unfold grow
  omega
def F6 (f:Za) (s:Zf) (accel pl sp d:Int):Za :=
  let p:=Yo f s.Time accel
  ⟨⟨p.Track.ID,p.Track.State,s.Time,⟨p.Track.At.X + (s.At.X - p.Track.At.X) * pl / 256,p.Track.At.Y + (s.At.Y - p.Track.At.Y) * pl / 256⟩,
    ⟨p.Track.Speed.X + (16 * (s.At.X - f.Last.At.X) / d - p.Track.Speed.X) * sp / 256,p.Track.Speed.Y + (16 * (s.At.Y - f.Last.At.Y) / d - p.Track.Speed.Y) * sp / 256⟩,
    s.Height,0,-(-((256 - pl) * p.Track.Radius + pl * s.Error) / 256) + 2,s.Code,p.Track.Hits + 1,0⟩,
    -(-((256 - sp) * p.Slack + sp * (-(-(16 * (s.Error + f.Last.Error)) / d) + 16 * accel * d + 2)) / 256) + 2,s⟩
theorem PX {f:Za} {s:Zf} {accel pl sp d:Int} (hf:f.In) (hs:s.In) (hpl:0 ≤ pl ∧ pl ≤ 256) (hsp:0 ≤ sp ∧ sp ≤ 256) (hd:s.Time - f.Last.Time=d ∧ 1 ≤ d ∧ d ≤ 600) (hacc:0 ≤ accel ∧ accel ≤ 20)
    (hp:(Zq f s.Time accel).2=0 ∧ (Zq f s.Time accel).1=Yo f s.Time accel ∧ (Yo f s.Time accel).In)
    (hw:ZQ (Yo f s.Time accel).Track.At s.At (w64 ((Yo f s.Time accel).Track.Radius + s.Error))=true)
    (hh:s.Height=f.Last.Height) (hc:s.Code ≠ -1) (hhits:f.Track.Hits ≤ 1000000)
    (hseen:(-12800 ≤ 16 * (s.At.X - f.Last.At.X) / d ∧ 16 * (s.At.X - f.Last.At.X) / d ≤ 12800) ∧ (-12800 ≤ 16 * (s.At.Y - f.Last.At.Y) / d ∧ 16 * (s.At.Y - f.Last.At.Y) / d ≤ 12800))
    (hin:(F6 f s accel pl sp d).In):ZK f s accel pl sp=(F6 f s accel pl sp d,0):=by
  obtain ⟨q1,q2,q3⟩:=hp
  have hla:=hf.2.2.2.2.2.2.2.1
  unfold ZK
  have c1:(Z1 f != 0)=false:=by simp [XW.2 hf]
  have c2:(Zy s != 0)=false:=by simp [Qm.2 hs]
  have c3:ZX pl 0 256=false:=by rw [JL];simp;omega
  have c4:ZX sp 0 256=false:=by rw [JL];simp;omega
  have wd:w64 (s.Time - f.Last.Time)=d:=by rw [hd.1,Zm (by omega)]
  have c5:decide (d ≤ 0)=false:=by simp;omega
  have c6:((Zq f s.Time accel).2 != 0)=false:=by simp [q1]
  have c8:(s.Code != -1)=true:=by simpa using hc
  simp only [c1,c2,c3,c4,wd,c5,c6,c8,cond_false,cond_true,q2,hw,Bool.not_true]
  obtain ⟨p,hpe⟩:∃ p,p=Yo f s.Time accel:=⟨_,rfl⟩
  have hpt:p.Track.Time=s.Time:=by rw [hpe];rfl
  have hph:p.Track.Hits=f.Track.Hits:=by rw [hpe];rfl
  rw [← hpe] at q3 ⊢
  obtain ⟨a1,a2,a3,a4⟩:=q3.1.2.1
  obtain ⟨b1,b2,b3,b4⟩:=hs.2.1
  obtain ⟨l1,l2,l3,l4⟩:=hla.2.1
  have hR:=q3.1.2.2.2.2
  have hE:=hs.2.2.2.2
  have hL:=hla.2.2.2.2
  have hS:=q3.2.2.2.2.1
  have hv1:=q3.2.1
  have hv2:=q3.2.2.1
  have hhi:=hs.2.2.1
  have m1:=J2 (a:=256 - pl) (b:=p.Track.Radius) (A:=256) (by omega) hR
  have m2:=J2 hpl hE
  have m3:=J2 (a:=256 - sp) (b:=p.Slack) (A:=256) (by omega) hS
  have m4:=J2 hacc (show 0 ≤ d ∧ d ≤ 600 by omega)
  have m5:16 * accel * d=16 * (accel * d):=Int.mul_assoc ..
  have zu:=Int.mul_ediv_add_emod (-(16 * (s.Error + f.Last.Error))) d
  have zq:0 ≤ -(-(16 * (s.Error + f.Last.Error)) / d) ∧ -(-(16 * (s.Error + f.Last.Error)) / d) ≤ 32000000:=by
    have q0:-(16 * (s.Error + f.Last.Error)) / d ≤ 0:=by
      have:-(16 * (s.Error + f.Last.Error)) / d < 1:=by rw [Int.ediv_lt_iff_lt_mul (by omega)];omega
      omega
    have q1:-32000000 ≤ -(16 * (s.Error + f.Last.Error)) / d:=by
      rw [Int.le_ediv_iff_mul_le (by omega)]
      have:-32000000 * d ≤ -32000000 * 1:=Int.mul_le_mul_of_nonpos_left (by omega) (by omega)
      omega
    omega
  obtain ⟨M,hM⟩:∃ M,M=-(-(16 * (s.Error + f.Last.Error)) / d) + 16 * accel * d + 2:=⟨_,rfl⟩
  have hMb:0 ≤ M ∧ M ≤ 33000000:=by omega
  have m6:=J2 hsp hMb
  have r7:Xk p.Track.At.X s.At.X pl=p.Track.At.X + (s.At.X - p.Track.At.X) * pl / 256:=BQ (by omega) (by omega) hpl
  have r8:Xk p.Track.At.Y s.At.Y pl=p.Track.At.Y + (s.At.Y - p.Track.At.Y) * pl / 256:=BQ (by omega) (by omega) hpl
  have r9:XV (w64 (w64 (w64 (256 - pl) * p.Track.Radius) + w64 (pl * s.Error))) 256=-(-((256 - pl) * p.Track.Radius + pl * s.Error) / 256):=by
    unfold XV
    rw [Zm (x:=256 - pl) (by omega),Zm (x:=(256 - pl) * p.Track.Radius) (by omega),Zm (x:=pl * s.Error) (by omega),Zm (x:=_ + _) (by omega),KC (by decide) (by omega)]
  have r10:ZT (w64 (16 * w64 (s.At.X - f.Last.At.X))) d=16 * (s.At.X - f.Last.At.X) / d:=by
    unfold ZT
    rw [Zm (x:=s.At.X - f.Last.At.X) (by omega),Zm (x:=16 * _) (by omega),Jh (by omega) (by omega)]
  have r11:ZT (w64 (16 * w64 (s.At.Y - f.Last.At.Y))) d=16 * (s.At.Y - f.Last.At.Y) / d:=by
    unfold ZT
    rw [Zm (x:=s.At.Y - f.Last.At.Y) (by omega),Zm (x:=16 * _) (by omega),Jh (by omega) (by omega)]
  have r12:Xk p.Track.Speed.X (16 * (s.At.X - f.Last.At.X) / d) sp=p.Track.Speed.X + (16 * (s.At.X - f.Last.At.X) / d - p.Track.Speed.X) * sp / 256:=BQ (by omega) (by omega) hsp
  have r13:Xk p.Track.Speed.Y (16 * (s.At.Y - f.Last.At.Y) / d) sp=p.Track.Speed.Y + (16 * (s.At.Y - f.Last.At.Y) / d - p.Track.Speed.Y) * sp / 256:=BQ (by omega) (by omega) hsp
  have r14:XV (w64 (16 * w64 (s.Error + f.Last.Error))) d=-(-(16 * (s.Error + f.Last.Error)) / d):=by
    unfold XV
    rw [Zm (x:=s.Error + f.Last.Error) (by omega),Zm (x:=16 * _) (by omega),KC (by omega) (by omega)]
  have rM:w64 (w64 (-(-(16 * (s.Error + f.Last.Error)) / d) + w64 (w64 (16 * accel) * d)) + 2)=M:=by
    rw [Zm (x:=16 * accel) (by omega),Zm (x:=16 * accel * d) (by omega),Zm (x:=_ + 16 * accel * d) (by omega),Zm (by omega),hM]
  have r15:XV (w64 (w64 (w64 (256 - sp) * p.Slack) + w64 (sp * M))) 256=-(-((256 - sp) * p.Slack + sp * M) / 256):=by
    unfold XV
    rw [Zm (x:=256 - sp) (by omega),Zm (x:=(256 - sp) * p.Slack) (by omega),Zm (x:=sp * M) (by omega),Zm (x:=_ + _) (by omega),KC (by decide) (by omega)]
  have r16:Xn (ZT (w64 (16 * w64 (s.Height - f.Last.Height))) d) (-3200) 3200=0:=by
    rw [hh,Int.sub_self,show w64 (16 * w64 0)=0 by decide]
    unfold ZT
    rw [Jh (by omega) (by omega)]
    show Xn (0 / d) (-3200) 3200=0
    rw [Int.zero_ediv];decide
  simp only [r7,r8,r9,r10,r11,r12,r13,r14,rM,r15,r16]
  rw [Zm (x:=-(-((256 - pl) * p.Track.Radius + pl * s.Error) / 256) + 2) (by omega),Zm (x:=p.Track.Hits + 1) (by have:=hf.2.2.2.2.2.1;omega),Zm (x:=-(-((256 - sp) * p.Slack + sp * M) / 256) + 2) (by omega),hpt]
  have hU:F6 f s accel pl sp d=(⟨⟨p.Track.ID,p.Track.State,s.Time,⟨p.Track.At.X + (s.At.X - p.Track.At.X) * pl / 256,p.Track.At.Y + (s.At.Y - p.Track.At.Y) * pl / 256⟩,
    ⟨p.Track.Speed.X + (16 * (s.At.X - f.Last.At.X) / d - p.Track.Speed.X) * sp / 256,p.Track.Speed.Y + (16 * (s.At.Y - f.Last.At.Y) / d - p.Track.Speed.Y) * sp / 256⟩,
    s.Height,0,-(-((256 - pl) * p.Track.Radius + pl * s.Error) / 256) + 2,s.Code,p.Track.Hits + 1,0⟩,-(-((256 - sp) * p.Slack + sp * M) / 256) + 2,s⟩:Za):=by
    rw [hM,hpe];rfl
  rw [← hU]
  have c9:(Z1 (F6 f s accel pl sp d) != 0)=false:=by simp [XW.2 hin]
  rw [c9,cond_false]
end Go.Sky
end
section
namespace Go.Sky
open Go
structure Ze where
  (rules:Zw)
  (all:List followed)
  (next last:Int)
deriving DecidableEq
def Ze.zero:Ze:=⟨Zw.zero,[],0,0⟩
def Ze.k (t:Ze) (A:Option Addr) (c:Nat):Array Value:=#[.int .i64 t.rules.Need,.int .i64 t.rules.Of,.int .i64 t.rules.Misses,.int .i64 t.rules.Accel,.int .i64 t.rules.Place,.int .i64 t.rules.Speed,.slice A t.all.length c,.int .i64 t.next,.int .i64 t.last]
end Go.Sky
end
section
namespace Go.Sky
open Go Go.Eng Go.Proofs
def YI (f:Za) (limit:Int):Za × Bool × Int :=
  let r1:=Z1 f
  cond (r1 != 0) (
    ((⟨⟨0,0,0,⟨0,0⟩,⟨0,0⟩,0,0,0,0,0,0⟩,0,⟨0,⟨0,0⟩,0,0,0⟩⟩:Za),false,r1)) (
    cond ((decide (limit < 0)) || (decide (limit > 100))) (
      ((⟨⟨0,0,0,⟨0,0⟩,⟨0,0⟩,0,0,0,0,0,0⟩,0,⟨0,⟨0,0⟩,0,0,0⟩⟩:Za),false,4)) (
      cond (decide (f.Track.Misses < 101)) (
        cond (f.Track.State == 1) (
          ((⟨⟨f.Track.ID,2,f.Track.Time,f.Track.At,f.Track.Speed,f.Track.Height,f.Track.Rate,f.Track.Radius,f.Track.Code,f.Track.Hits,w64 (f.Track.Misses + 1)⟩,f.Slack,f.Last⟩:Za),decide ((w64 (f.Track.Misses + 1)) > limit),0)) (
          ((⟨⟨f.Track.ID,f.Track.State,f.Track.Time,f.Track.At,f.Track.Speed,f.Track.Height,f.Track.Rate,f.Track.Radius,f.Track.Code,f.Track.Hits,w64 (f.Track.Misses + 1)⟩,f.Slack,f.Last⟩:Za),decide ((w64 (f.Track.Misses + 1)) > limit),0))) (
        cond (f.Track.State == 1) (
          ((⟨⟨f.Track.ID,2,f.Track.Time,f.Track.At,f.Track.Speed,f.Track.Height,f.Track.Rate,f.Track.Radius,f.Track.Code,f.Track.Hits,101⟩,f.Slack,f.Last⟩:Za),decide (101 > limit),0)) (
          ((⟨⟨f.Track.ID,f.Track.State,f.Track.Time,f.Track.At,f.Track.Speed,f.Track.Height,f.Track.Rate,f.Track.Radius,f.Track.Code,f.Track.Hits,101⟩,f.Slack,f.Last⟩:Za),decide (101 > limit),0)))))
set_option maxHeartbeats 4000000 in
set_option maxRecDepth 100000 in
theorem BR (f:Za) (limit:Int) (w:World):Calls Tryz.prog 55 #[Za.v f,.int .i64 limit] w (Ret w (.tuple #[Za.v ((YI f limit).1),.bool ((YI f limit).2.1),.int .i64 ((YI f limit).2.2)])):=by
  refine Zk (vs:=[Za.v f,.i limit]) (w:=w) Tryz.func55 rfl Tryz.ntmps55 rfl (TC.sr (TL.nw 2 (fun b1=>.p0 b1) (fun b1=>Bk b1 (Za.c f) 44) (fun b1=>{}) (fun b1=>TL.nw 4 (fun b2=>.p0 b2) (fun b2=>Bk b2 (Za.c Za.zero) 44) (fun b2=>{}) (fun b2=>TL.r 4 [] [(5,.b false),(6,.i 0)] {} (TL.ns (TC.sr (TL.r 1 [1] [(8,Za.v f)] {} (TL.c 9 (Z1 f) (fun r1=>.i r1) (fun w _=>XA f w) {} (fun r1 hr1=>TL.r 3 [] [(7,.i r1)] {} (TL.nr (TL.r 2 [] [(11,.b (r1 != 0))] {} (TL.next rfl (TC.cond (r1 != 0) rfl Kr (fun h1=>?_) (fun h1=>?_))))))))))))))
  · exact TC.sr (TL.r 2 [] [(12,Za.v Za.zero),(13,.i r1)] {} (TL.s 0 (Bk b2 (Za.c Za.zero) 44) (fun _=>{}) (TL.r 5 [] [(5,.b false),(6,.i r1)] {} (TL.next rfl (TC.ret (TE.rt (TE.ret [0] (.tuple #[Za.v (⟨⟨0,0,0,⟨0,0⟩,⟨0,0⟩,0,0,0,0,0,0⟩,0,⟨0,⟨0,0⟩,0,0,0⟩⟩:Za),.b false,.i r1]) {} (by unfold YI;refine eS (a:=((⟨⟨0,0,0,⟨0,0⟩,⟨0,0⟩,0,0,0,0,0,0⟩,0,⟨0,⟨0,0⟩,0,0,0⟩⟩:Za),false,r1)) (fun (z:Za × Bool × Int)=>(.tuple #[Za.v z.1,.b z.2.1,.i z.2.2]:Value)) ?_;subst hr1;exact Zi h1 (rfl)))))))))
  · refine TC.sn (TC.seq (TC.sr (TL.r 3 [] [(16,.b (decide (limit < 0)))] {} (TL.j 16 (decide (limit < 0)) 6 [] [] (fun β=>[(19,.b (β || (decide (limit > 100))))]) Kr {} {} (TL.next rfl (TC.cond ((decide (limit < 0)) || (decide (limit > 100))) rfl Kr (fun h2=>?_) (fun h2=>?_)))))))
    · exact TC.sr (TL.r 1 [] [(20,Za.v Za.zero)] {} (TL.s 0 (Bk b2 (Za.c Za.zero) 44) (fun _=>{}) (TL.r 4 [] [(5,.b false),(6,.i 4)] {} (TL.next rfl (TC.ret (TE.rt (TE.ret [0] (.tuple #[Za.v (⟨⟨0,0,0,⟨0,0⟩,⟨0,0⟩,0,0,0,0,0,0⟩,0,⟨0,⟨0,0⟩,0,0,0⟩⟩:Za),.b false,.i 4]) {} (by unfold YI;refine eS (a:=((⟨⟨0,0,0,⟨0,0⟩,⟨0,0⟩,0,0,0,0,0,0⟩,0,⟨0,⟨0,0⟩,0,0,0⟩⟩:Za),false,4)) (fun (z:Za × Bool × Int)=>(.tuple #[Za.v z.1,.b z.2.1,.i z.2.2]:Value)) ?_;subst hr1;exact Zb h1 (Zi h2 (rfl))))))))))
    · refine TC.sn (TC.seq (TC.sr (TL.r 4 [1] [(24,.b (decide (f.Track.Misses < 101)))] {} (TL.next rfl (TC.cond (decide (f.Track.Misses < 101)) rfl Kr (fun h3=>?_) (fun h3=>?_))))))
      · refine TC.region (TL.r 6 [1] [(28,.i (w64 (f.Track.Misses + 1))),(30,.pt b1 12)] {} (TL.s 1 (Bk b1 (Za.c (⟨⟨f.Track.ID,f.Track.State,f.Track.Time,f.Track.At,f.Track.Speed,f.Track.Height,f.Track.Rate,f.Track.Radius,f.Track.Code,f.Track.Hits,w64 (f.Track.Misses + 1)⟩,f.Slack,f.Last⟩:Za)) 44) (fun _=>{}) (TL.ns (TC.sr (TL.r 4 [1] [(36,.b (f.Track.State == 1))] {} (TL.next rfl (TC.cond (f.Track.State == 1) rfl Kr (fun h4=>?_) (fun h4=>?_))))))))
        · exact TC.region (TL.r 2 [] [(38,.pt b1 1)] {} (TL.s 1 (Bk b1 (Za.c (⟨⟨f.Track.ID,2,f.Track.Time,f.Track.At,f.Track.Speed,f.Track.Height,f.Track.Rate,f.Track.Radius,f.Track.Code,f.Track.Hits,w64 (f.Track.Misses + 1)⟩,f.Slack,f.Last⟩:Za)) 44) (fun _=>{}) (TL.ns (TC.drawG 6 [Bk b1 (Za.c (⟨⟨f.Track.ID,2,f.Track.Time,f.Track.At,f.Track.Speed,f.Track.Height,f.Track.Rate,f.Track.Radius,f.Track.Code,f.Track.Hits,w64 (f.Track.Misses + 1)⟩,f.Slack,f.Last⟩:Za)) 44] [Bk b2 (Za.c (⟨⟨f.Track.ID,2,f.Track.Time,f.Track.At,f.Track.Speed,f.Track.Height,f.Track.Rate,f.Track.Radius,f.Track.Code,f.Track.Hits,w64 (f.Track.Misses + 1)⟩,f.Slack,f.Last⟩:Za)) 44,Bk b1 (Za.c (⟨⟨f.Track.ID,2,f.Track.Time,f.Track.At,f.Track.Speed,f.Track.Height,f.Track.Rate,f.Track.Radius,f.Track.Code,f.Track.Hits,w64 (f.Track.Misses + 1)⟩,f.Slack,f.Last⟩:Za)) 44] (sb 2) (sb 2) Kr Kr (TG.run 6 [0,0] [(4,.p0 b2),(39,Za.v (⟨⟨f.Track.ID,2,f.Track.Time,f.Track.At,f.Track.Speed,f.Track.Height,f.Track.Rate,f.Track.Radius,f.Track.Code,f.Track.Hits,w64 (f.Track.Misses + 1)⟩,f.Slack,f.Last⟩:Za)),(44,.b (decide ((w64 (f.Track.Misses + 1)) > limit)))] rfl rfl rfl {} (TG.store 0 rfl (fun _=>{}) (TG.run 9 [] [(4,.p0 b2),(5,.b (decide ((w64 (f.Track.Misses + 1)) > limit))),(6,.i 0)] rfl rfl rfl {} (TG.next rfl rfl (TC.ret (TE.ret [0] (.tuple #[Za.v (⟨⟨f.Track.ID,2,f.Track.Time,f.Track.At,f.Track.Speed,f.Track.Height,f.Track.Rate,f.Track.Radius,f.Track.Code,f.Track.Hits,w64 (f.Track.Misses + 1)⟩,f.Slack,f.Last⟩:Za),.b (decide ((w64 (f.Track.Misses + 1)) > limit)),.i 0]) {} (by unfold YI;refine eS (a:=((⟨⟨f.Track.ID,2,f.Track.Time,f.Track.At,f.Track.Speed,f.Track.Height,f.Track.Rate,f.Track.Radius,f.Track.Code,f.Track.Hits,w64 (f.Track.Misses + 1)⟩,f.Slack,f.Last⟩:Za),decide ((w64 (f.Track.Misses + 1)) > limit),0)) (fun (z:Za × Bool × Int)=>(.tuple #[Za.v z.1,.b z.2.1,.i z.2.2]:Value)) ?_;subst hr1;exact Zb h1 (Zb h2 (Zi h3 (Zi h4 (rfl)))))))))))))))
        · exact TC.sn (TC.seq (TC.drawG 6 [Bk b1 (Za.c (⟨⟨f.Track.ID,f.Track.State,f.Track.Time,f.Track.At,f.Track.Speed,f.Track.Height,f.Track.Rate,f.Track.Radius,f.Track.Code,f.Track.Hits,w64 (f.Track.Misses + 1)⟩,f.Slack,f.Last⟩:Za)) 44] [Bk b2 (Za.c (⟨⟨f.Track.ID,f.Track.State,f.Track.Time,f.Track.At,f.Track.Speed,f.Track.Height,f.Track.Rate,f.Track.Radius,f.Track.Code,f.Track.Hits,w64 (f.Track.Misses + 1)⟩,f.Slack,f.Last⟩:Za)) 44,Bk b1 (Za.c (⟨⟨f.Track.ID,f.Track.State,f.Track.Time,f.Track.At,f.Track.Speed,f.Track.Height,f.Track.Rate,f.Track.Radius,f.Track.Code,f.Track.Hits,w64 (f.Track.Misses + 1)⟩,f.Slack,f.Last⟩:Za)) 44] (sb 2) (sb 2) Kr Kr (TG.run 6 [0,0] [(4,.p0 b2),(39,Za.v (⟨⟨f.Track.ID,f.Track.State,f.Track.Time,f.Track.At,f.Track.Speed,f.Track.Height,f.Track.Rate,f.Track.Radius,f.Track.Code,f.Track.Hits,w64 (f.Track.Misses + 1)⟩,f.Slack,f.Last⟩:Za)),(44,.b (decide ((w64 (f.Track.Misses + 1)) > limit)))] rfl rfl rfl {} (TG.store 0 rfl (fun _=>{}) (TG.run 9 [] [(4,.p0 b2),(5,.b (decide ((w64 (f.Track.Misses + 1)) > limit))),(6,.i 0)] rfl rfl rfl {} (TG.next rfl rfl (TC.ret (TE.ret [0] (.tuple #[Za.v (⟨⟨f.Track.ID,f.Track.State,f.Track.Time,f.Track.At,f.Track.Speed,f.Track.Height,f.Track.Rate,f.Track.Radius,f.Track.Code,f.Track.Hits,w64 (f.Track.Misses + 1)⟩,f.Slack,f.Last⟩:Za),.b (decide ((w64 (f.Track.Misses + 1)) > limit)),.i 0]) {} (by unfold YI;refine eS (a:=((⟨⟨f.Track.ID,f.Track.State,f.Track.Time,f.Track.At,f.Track.Speed,f.Track.Height,f.Track.Rate,f.Track.Radius,f.Track.Code,f.Track.Hits,w64 (f.Track.Misses + 1)⟩,f.Slack,f.Last⟩:Za),decide ((w64 (f.Track.Misses + 1)) > limit),0)) (fun (z:Za × Bool × Int)=>(.tuple #[Za.v z.1,.b z.2.1,.i z.2.2]:Value)) ?_;subst hr1;exact Zb h1 (Zb h2 (Zi h3 (Zb h4 (rfl)))))))))))))
      · refine TC.region (TL.r 2 [] [(32,.pt b1 12)] {} (TL.s 1 (Bk b1 (Za.c (⟨⟨f.Track.ID,f.Track.State,f.Track.Time,f.Track.At,f.Track.Speed,f.Track.Height,f.Track.Rate,f.Track.Radius,f.Track.Code,f.Track.Hits,101⟩,f.Slack,f.Last⟩:Za)) 44) (fun _=>{}) (TL.ns (TC.sr (TL.r 4 [1] [(36,.b (f.Track.State == 1))] {} (TL.next rfl (TC.cond (f.Track.State == 1) rfl Kr (fun h5=>?_) (fun h5=>?_))))))))
        · exact TC.region (TL.r 2 [] [(38,.pt b1 1)] {} (TL.s 1 (Bk b1 (Za.c (⟨⟨f.Track.ID,2,f.Track.Time,f.Track.At,f.Track.Speed,f.Track.Height,f.Track.Rate,f.Track.Radius,f.Track.Code,f.Track.Hits,101⟩,f.Slack,f.Last⟩:Za)) 44) (fun _=>{}) (TL.ns (TC.drawG 6 [Bk b1 (Za.c (⟨⟨f.Track.ID,2,f.Track.Time,f.Track.At,f.Track.Speed,f.Track.Height,f.Track.Rate,f.Track.Radius,f.Track.Code,f.Track.Hits,101⟩,f.Slack,f.Last⟩:Za)) 44] [Bk b2 (Za.c (⟨⟨f.Track.ID,2,f.Track.Time,f.Track.At,f.Track.Speed,f.Track.Height,f.Track.Rate,f.Track.Radius,f.Track.Code,f.Track.Hits,101⟩,f.Slack,f.Last⟩:Za)) 44,Bk b1 (Za.c (⟨⟨f.Track.ID,2,f.Track.Time,f.Track.At,f.Track.Speed,f.Track.Height,f.Track.Rate,f.Track.Radius,f.Track.Code,f.Track.Hits,101⟩,f.Slack,f.Last⟩:Za)) 44] (sb 2) (sb 2) Kr Kr (TG.run 6 [0,0] [(4,.p0 b2),(39,Za.v (⟨⟨f.Track.ID,2,f.Track.Time,f.Track.At,f.Track.Speed,f.Track.Height,f.Track.Rate,f.Track.Radius,f.Track.Code,f.Track.Hits,101⟩,f.Slack,f.Last⟩:Za)),(44,.b (decide (101 > limit)))] rfl rfl rfl {} (TG.store 0 rfl (fun _=>{}) (TG.run 9 [] [(4,.p0 b2),(5,.b (decide (101 > limit))),(6,.i 0)] rfl rfl rfl {} (TG.next rfl rfl (TC.ret (TE.ret [0] (.tuple #[Za.v (⟨⟨f.Track.ID,2,f.Track.Time,f.Track.At,f.Track.Speed,f.Track.Height,f.Track.Rate,f.Track.Radius,f.Track.Code,f.Track.Hits,101⟩,f.Slack,f.Last⟩:Za),.b (decide (101 > limit)),.i 0]) {} (by unfold YI;refine eS (a:=((⟨⟨f.Track.ID,2,f.Track.Time,f.Track.At,f.Track.Speed,f.Track.Height,f.Track.Rate,f.Track.Radius,f.Track.Code,f.Track.Hits,101⟩,f.Slack,f.Last⟩:Za),decide (101 > limit),0)) (fun (z:Za × Bool × Int)=>(.tuple #[Za.v z.1,.b z.2.1,.i z.2.2]:Value)) ?_;subst hr1;exact Zb h1 (Zb h2 (Zb h3 (Zi h5 (rfl)))))))))))))))
        · exact TC.sn (TC.seq (TC.drawG 6 [Bk b1 (Za.c (⟨⟨f.Track.ID,f.Track.State,f.Track.Time,f.Track.At,f.Track.Speed,f.Track.Height,f.Track.Rate,f.Track.Radius,f.Track.Code,f.Track.Hits,101⟩,f.Slack,f.Last⟩:Za)) 44] [Bk b2 (Za.c (⟨⟨f.Track.ID,f.Track.State,f.Track.Time,f.Track.At,f.Track.Speed,f.Track.Height,f.Track.Rate,f.Track.Radius,f.Track.Code,f.Track.Hits,101⟩,f.Slack,f.Last⟩:Za)) 44,Bk b1 (Za.c (⟨⟨f.Track.ID,f.Track.State,f.Track.Time,f.Track.At,f.Track.Speed,f.Track.Height,f.Track.Rate,f.Track.Radius,f.Track.Code,f.Track.Hits,101⟩,f.Slack,f.Last⟩:Za)) 44] (sb 2) (sb 2) Kr Kr (TG.run 6 [0,0] [(4,.p0 b2),(39,Za.v (⟨⟨f.Track.ID,f.Track.State,f.Track.Time,f.Track.At,f.Track.Speed,f.Track.Height,f.Track.Rate,f.Track.Radius,f.Track.Code,f.Track.Hits,101⟩,f.Slack,f.Last⟩:Za)),(44,.b (decide (101 > limit)))] rfl rfl rfl {} (TG.store 0 rfl (fun _=>{}) (TG.run 9 [] [(4,.p0 b2),(5,.b (decide (101 > limit))),(6,.i 0)] rfl rfl rfl {} (TG.next rfl rfl (TC.ret (TE.ret [0] (.tuple #[Za.v (⟨⟨f.Track.ID,f.Track.State,f.Track.Time,f.Track.At,f.Track.Speed,f.Track.Height,f.Track.Rate,f.Track.Radius,f.Track.Code,f.Track.Hits,101⟩,f.Slack,f.Last⟩:Za),.b (decide (101 > limit)),.i 0]) {} (by unfold YI;refine eS (a:=((⟨⟨f.Track.ID,f.Track.State,f.Track.Time,f.Track.At,f.Track.Speed,f.Track.Height,f.Track.Rate,f.Track.Radius,f.Track.Code,f.Track.Hits,101⟩,f.Slack,f.Last⟩:Za),decide (101 > limit),0)) (fun (z:Za × Bool × Int)=>(.tuple #[Za.v z.1,.b z.2.1,.i z.2.2]:Value)) ?_;subst hr1;exact Zb h1 (Zb h2 (Zb h3 (Zb h5 (rfl)))))))))))))
def XJ (f:Za):Za × Int :=
  let r1:=Z1 f
  cond (r1 != 0) (
    ((⟨⟨0,0,0,⟨0,0⟩,⟨0,0⟩,0,0,0,0,0,0⟩,0,⟨0,⟨0,0⟩,0,0,0⟩⟩:Za),r1)) (
    cond (f.Track.State == 2) (
      ((⟨⟨f.Track.ID,1,f.Track.Time,f.Track.At,f.Track.Speed,f.Track.Height,f.Track.Rate,f.Track.Radius,f.Track.Code,f.Track.Hits,0⟩,f.Slack,f.Last⟩:Za),0)) (
      ((⟨⟨f.Track.ID,f.Track.State,f.Track.Time,f.Track.At,f.Track.Speed,f.Track.Height,f.Track.Rate,f.Track.Radius,f.Track.Code,f.Track.Hits,0⟩,f.Slack,f.Last⟩:Za),0)))
set_option maxRecDepth 100000 in
theorem F7 (f:Za) (w:World):Calls Tryz.prog 54 #[Za.v f] w (Ret w (.tuple #[Za.v ((XJ f).1),.int .i64 ((XJ f).2)])):=by
  refine Zk (vs:=[Za.v f]) (w:=w) Tryz.func54 rfl Tryz.ntmps54 rfl (TC.sr (TL.nw 1 (fun b1=>.p0 b1) (fun b1=>Bk b1 (Za.c f) 44) (fun b1=>{}) (fun b1=>TL.nw 2 (fun b2=>.p0 b2) (fun b2=>Bk b2 (Za.c Za.zero) 44) (fun b2=>{}) (fun b2=>TL.r 3 [] [(3,.i 0)] {} (TL.ns (TC.sr (TL.r 1 [1] [(5,Za.v f)] {} (TL.c 6 (Z1 f) (fun r1=>.i r1) (fun w _=>XA f w) {} (fun r1 hr1=>TL.r 3 [] [(4,.i r1)] {} (TL.nr (TL.r 2 [] [(8,.b (r1 != 0))] {} (TL.next rfl (TC.cond (r1 != 0) rfl Kr (fun h1=>?_) (fun h1=>?_))))))))))))))
  · exact TC.sr (TL.r 2 [] [(9,Za.v Za.zero),(10,.i r1)] {} (TL.s 0 (Bk b2 (Za.c Za.zero) 44) (fun _=>{}) (TL.r 4 [] [(3,.i r1)] {} (TL.next rfl (TC.ret (TE.rt (TE.ret [0] (.tuple #[Za.v (⟨⟨0,0,0,⟨0,0⟩,⟨0,0⟩,0,0,0,0,0,0⟩,0,⟨0,⟨0,0⟩,0,0,0⟩⟩:Za),.i r1]) {} (by unfold XJ;refine eS (a:=((⟨⟨0,0,0,⟨0,0⟩,⟨0,0⟩,0,0,0,0,0,0⟩,0,⟨0,⟨0,0⟩,0,0,0⟩⟩:Za),r1)) (fun (z:Za × Int)=>(.tuple #[Za.v z.1,.i z.2]:Value)) ?_;subst hr1;exact Zi h1 (rfl)))))))))
  · refine TC.snr (TL.r 2 [] [(12,.pt b1 12)] {} (TL.s 1 (Bk b1 (Za.c (⟨⟨f.Track.ID,f.Track.State,f.Track.Time,f.Track.At,f.Track.Speed,f.Track.Height,f.Track.Rate,f.Track.Radius,f.Track.Code,f.Track.Hits,0⟩,f.Slack,f.Last⟩:Za)) 44) (fun _=>{}) (TL.ns (TC.sr (TL.r 4 [1] [(16,.b (f.Track.State == 2))] {} (TL.next rfl (TC.cond (f.Track.State == 2) rfl Kr (fun h2=>?_) (fun h2=>?_))))))))
    · exact TC.region (TL.r 2 [] [(18,.pt b1 1)] {} (TL.s 1 (Bk b1 (Za.c (⟨⟨f.Track.ID,1,f.Track.Time,f.Track.At,f.Track.Speed,f.Track.Height,f.Track.Rate,f.Track.Radius,f.Track.Code,f.Track.Hits,0⟩,f.Slack,f.Last⟩:Za)) 44) (fun _=>{}) (TL.nr (TL.r 1 [1] [(19,Za.v (⟨⟨f.Track.ID,1,f.Track.Time,f.Track.At,f.Track.Speed,f.Track.Height,f.Track.Rate,f.Track.Radius,f.Track.Code,f.Track.Hits,0⟩,f.Slack,f.Last⟩:Za))] {} (TL.s 0 (Bk b2 (Za.c (⟨⟨f.Track.ID,1,f.Track.Time,f.Track.At,f.Track.Speed,f.Track.Height,f.Track.Rate,f.Track.Radius,f.Track.Code,f.Track.Hits,0⟩,f.Slack,f.Last⟩:Za)) 44) (fun _=>{}) (TL.r 3 [] [(3,.i 0)] {} (TL.next rfl (TC.ret (TE.ret [0] (.tuple #[Za.v (⟨⟨f.Track.ID,1,f.Track.Time,f.Track.At,f.Track.Speed,f.Track.Height,f.Track.Rate,f.Track.Radius,f.Track.Code,f.Track.Hits,0⟩,f.Slack,f.Last⟩:Za),.i 0]) {} (by unfold XJ;refine eS (a:=((⟨⟨f.Track.ID,1,f.Track.Time,f.Track.At,f.Track.Speed,f.Track.Height,f.Track.Rate,f.Track.Radius,f.Track.Code,f.Track.Hits,0⟩,f.Slack,f.Last⟩:Za),0)) (fun (z:Za × Int)=>(.tuple #[Za.v z.1,.i z.2]:Value)) ?_;subst hr1;exact Zb h1 (Zi h2 (rfl))))))))))))
    · exact TC.snr (TL.r 1 [1] [(19,Za.v (⟨⟨f.Track.ID,f.Track.State,f.Track.Time,f.Track.At,f.Track.Speed,f.Track.Height,f.Track.Rate,f.Track.Radius,f.Track.Code,f.Track.Hits,0⟩,f.Slack,f.Last⟩:Za))] {} (TL.s 0 (Bk b2 (Za.c (⟨⟨f.Track.ID,f.Track.State,f.Track.Time,f.Track.At,f.Track.Speed,f.Track.Height,f.Track.Rate,f.Track.Radius,f.Track.Code,f.Track.Hits,0⟩,f.Slack,f.Last⟩:Za)) 44) (fun _=>{}) (TL.r 3 [] [(3,.i 0)] {} (TL.next rfl (TC.ret (TE.ret [0] (.tuple #[Za.v (⟨⟨f.Track.ID,f.Track.State,f.Track.Time,f.Track.At,f.Track.Speed,f.Track.Height,f.Track.Rate,f.Track.Radius,f.Track.Code,f.Track.Hits,0⟩,f.Slack,f.Last⟩:Za),.i 0]) {} (by unfold XJ;refine eS (a:=((⟨⟨f.Track.ID,f.Track.State,f.Track.Time,f.Track.At,f.Track.Speed,f.Track.Height,f.Track.Rate,f.Track.Radius,f.Track.Code,f.Track.Hits,0⟩,f.Slack,f.Last⟩:Za),0)) (fun (z:Za × Int)=>(.tuple #[Za.v z.1,.i z.2]:Value)) ?_;subst hr1;exact Zb h1 (Zb h2 (rfl)))))))))
def Qy (x:Int):Int :=
  let r1:=YO ((ZE .u64 ((YO ((ZE .u64 (x.fdiv (2 ^ 1)) 6148914691236517205) + (ZE .u64 x 6148914691236517205))).fdiv (2 ^ 2)) 3689348814741910323) + (ZE .u64 (YO ((ZE .u64 (x.fdiv (2 ^ 1)) 6148914691236517205) + (ZE .u64 x 6148914691236517205))) 3689348814741910323))
  let r2:=YO ((YO ((ZE .u64 (YO ((r1.fdiv (2 ^ 4)) + r1)) 1085102592571150095) + ((ZE .u64 (YO ((r1.fdiv (2 ^ 4)) + r1)) 1085102592571150095).fdiv (2 ^ 8)))) + ((YO ((ZE .u64 (YO ((r1.fdiv (2 ^ 4)) + r1)) 1085102592571150095) + ((ZE .u64 (YO ((r1.fdiv (2 ^ 4)) + r1)) 1085102592571150095).fdiv (2 ^ 8)))).fdiv (2 ^ 16)))
  ZE .i64 (w64 (YO (r2 + (r2.fdiv (2 ^ 32))))) 127
set_option maxRecDepth 100000 in
theorem Vl (x:Int) (w:World):Calls Tryz.prog 234 #[.int .u64 x] w (Ret w (.int .i64 (Qy x))):=by
  refine Zk (vs:=[.int .u64 x]) (w:=w) Tryz.func234 rfl Tryz.ntmps234 rfl (TC.sr (TL.r 1 [] [(2,.i 0)] {} (TL.nr (TL.r 7 [] [(0,.int .u64 (YO ((ZE .u64 (x.fdiv (2 ^ 1)) 6148914691236517205) + (ZE .u64 x 6148914691236517205))))] {} (TL.nr (TL.r 7 [] [(0,.int .u64 (YO ((ZE .u64 ((YO ((ZE .u64 (x.fdiv (2 ^ 1)) 6148914691236517205) + (ZE .u64 x 6148914691236517205))).fdiv (2 ^ 2)) 3689348814741910323) + (ZE .u64 (YO ((ZE .u64 (x.fdiv (2 ^ 1)) 6148914691236517205) + (ZE .u64 x 6148914691236517205))) 3689348814741910323))))] {} ?_))))))
  generalize hr1:YO ((ZE .u64 ((YO ((ZE .u64 (x.fdiv (2 ^ 1)) 6148914691236517205) + (ZE .u64 x 6148914691236517205))).fdiv (2 ^ 2)) 3689348814741910323) + (ZE .u64 (YO ((ZE .u64 (x.fdiv (2 ^ 1)) 6148914691236517205) + (ZE .u64 x 6148914691236517205))) 3689348814741910323))=r1
  refine TL.nr (TL.r 6 [] [(0,.int .u64 (ZE .u64 (YO ((r1.fdiv (2 ^ 4)) + r1)) 1085102592571150095))] {} (TL.nr (TL.r 5 [] [(0,.int .u64 (YO ((ZE .u64 (YO ((r1.fdiv (2 ^ 4)) + r1)) 1085102592571150095) + ((ZE .u64 (YO ((r1.fdiv (2 ^ 4)) + r1)) 1085102592571150095).fdiv (2 ^ 8)))))] {} (TL.nr (TL.r 5 [] [(0,.int .u64 (YO ((YO ((ZE .u64 (YO ((r1.fdiv (2 ^ 4)) + r1)) 1085102592571150095) + ((ZE .u64 (YO ((r1.fdiv (2 ^ 4)) + r1)) 1085102592571150095).fdiv (2 ^ 8)))) + ((YO ((ZE .u64 (YO ((r1.fdiv (2 ^ 4)) + r1)) 1085102592571150095) + ((ZE .u64 (YO ((r1.fdiv (2 ^ 4)) + r1)) 1085102592571150095).fdiv (2 ^ 8)))).fdiv (2 ^ 16)))))] {} ?_)))))
  generalize hr2:YO ((YO ((ZE .u64 (YO ((r1.fdiv (2 ^ 4)) + r1)) 1085102592571150095) + ((ZE .u64 (YO ((r1.fdiv (2 ^ 4)) + r1)) 1085102592571150095).fdiv (2 ^ 8)))) + ((YO ((ZE .u64 (YO ((r1.fdiv (2 ^ 4)) + r1)) 1085102592571150095) + ((ZE .u64 (YO ((r1.fdiv (2 ^ 4)) + r1)) 1085102592571150095).fdiv (2 ^ 8)))).fdiv (2 ^ 16)))=r2
  exact TL.nr (TL.r 5 [] [(0,.int .u64 (YO (r2 + (r2.fdiv (2 ^ 32)))))] {} (TL.nr (TL.r 4 [] [(2,.i (ZE .i64 (w64 (YO (r2 + (r2.fdiv (2 ^ 32))))) 127))] {} (TL.next rfl (TC.ret (TE.ret [] (.i (ZE .i64 (w64 (YO (r2 + (r2.fdiv (2 ^ 32))))) 127)) {} (by unfold Qy;refine eS (fun z=>(.i z:Value)) ?_;subst hr1 hr2;exact rfl)))))))
def QF (x:Int):Int :=
  let r1:=Qy x
  r1
set_option maxRecDepth 100000 in
theorem VJ (x:Int) (w:World):Calls Tryz.prog 222 #[.int .u64 x] w (Ret w (.int .i64 (QF x))):=by
  exact Zk (vs:=[.int .u64 x]) (w:=w) Tryz.func222 rfl Tryz.ntmps222 rfl (TC.sr (TL.r 1 [] [(2,.i 0)] {} (TL.ns (TC.condF rfl Kr (TC.snr (TL.r 1 [] [(6,.int .u64 x)] {} (TL.c 7 (Qy x) (fun r1=>.i r1) (fun w _=>Vl x w) {} (fun r1 hr1=>TL.r 3 [] [(2,.i r1)] {} (TL.next rfl (TC.ret (TE.ret [] (.i r1) {} (by unfold QF;refine eS (fun z=>(.i z:Value)) ?_;subst hr1;exact rfl))))))))))))
def Xr (need:Int) (of_:Int):Int :=
  cond ((((decide (of_ < 1)) || (decide (of_ > 16))) || (decide (need < 1))) || (decide (need > of_))) (
    4) (
    0)
set_option maxRecDepth 100000 in
theorem KV (need:Int) (of_:Int) (w:World):Calls Tryz.prog 150 #[.int .i64 need,.int .i64 of_] w (Ret w (.int .i64 (Xr need of_))):=by
  refine Zk (vs:=[.i need,.i of_]) (w:=w) Tryz.func150 rfl Tryz.ntmps150 rfl (TC.sr (TL.r 1 [] [(4,.i 0)] {} (TL.ns (TC.sr (TL.r 3 [] [(7,.b (decide (of_ < 1)))] {} (TL.j 7 (decide (of_ < 1)) 6 [] [] (fun β=>[(10,.b (β || (decide (of_ > 16))))]) Kr {} {} (TL.r 7 [] [(11,.b ((decide (of_ < 1)) || (decide (of_ > 16))))] {} (TL.j 11 ((decide (of_ < 1)) || (decide (of_ > 16))) 10 [] [] (fun β=>[(14,.b (β || (decide (need < 1))))]) Kr {} {} (TL.r 11 [] [(15,.b (((decide (of_ < 1)) || (decide (of_ > 16))) || (decide (need < 1))))] {} (TL.j 15 (((decide (of_ < 1)) || (decide (of_ > 16))) || (decide (need < 1))) 15 [] [] (fun β=>[(19,.b (β || (decide (need > of_))))]) Kr {} {} (TL.next rfl (TC.cond ((((decide (of_ < 1)) || (decide (of_ > 16))) || (decide (need < 1))) || (decide (need > of_))) rfl Kr (fun h1=>?_) (fun h1=>?_)))))))))))))
  · exact TC.sr (TL.r 1 [] [(4,.i 4)] {} (TL.next rfl (TC.ret (TE.rt (TE.ret [] (.i 4) {} (by unfold Xr;refine eS (fun z=>(.i z:Value)) ?_;exact Zi h1 (rfl)))))))
  · exact TC.snr (TL.r 1 [] [(4,.i 0)] {} (TL.next rfl (TC.ret (TE.ret [] (.i 0) {} (by unfold Xr;refine eS (fun z=>(.i z:Value)) ?_;exact Zb h1 (rfl))))))
def Ji (b_:Zc):Int :=
  cond ((decide (b_.Scans < 0)) || (decide (b_.Scans > 16))) (
    4) (
    cond (decide (b_.Hits < 0)) (
      3) (
      cond (decide (b_.Hits ≥ (w64 (1 * 2 ^ (min b_.Scans.toNat 64))))) (
        3) (
        0)))
set_option maxRecDepth 100000 in
theorem HL (b_:Zc) (w:World):Calls Tryz.prog 155 #[Zc.v b_] w (Ret w (.int .i64 (Ji b_))):=by
  refine Zk (vs:=[Zc.v b_]) (w:=w) Tryz.func155 rfl Tryz.ntmps155 rfl (TC.sr (TL.nw 1 (fun b1=>.p0 b1) (fun b1=>Bk b1 (Zc.c b_) 120) (fun b1=>{}) (fun b1=>TL.r 2 [] [(2,.i 0)] {} (TL.ns (TC.block (TC.sr (TL.r 4 [0] [(7,.b (decide (b_.Scans < 0)))] {} (TL.j 7 (decide (b_.Scans < 0)) 8 [] [0] (fun β=>[(11,.b (β || (decide (b_.Scans > 16))))]) Kr {} {} (TL.r 9 [] [(3,.b ((decide (b_.Scans < 0)) || (decide (b_.Scans > 16))))] {} (TL.next rfl (TC.cond ((decide (b_.Scans < 0)) || (decide (b_.Scans > 16))) rfl Kr (fun h1=>?_) (fun h1=>?_))))))))))))
  · refine TC.sr (TL.r 1 [] [(2,.i 4)] {} (TL.next rfl (TC.ret (TE.rb (TE.rt ?_)))))
    exact TE.ret [] (.i 4) {} (by unfold Ji;refine eS (fun z=>(.i z:Value)) ?_;exact Zi h1 (rfl))
  · have q1_0:=(Zo (Zt h1))
    have q1_1:=(Zo (ZR h1))
    refine TC.seq (TC.draw 12 Kr Kr Kr (TQ.r 4 [0] [(16,.b (decide (b_.Hits < 0)))] {} (TQ.split 16 (decide (b_.Hits < 0)) Kr (fun h2=>?_) (fun h2=>?_))))
    · refine TQ.r 12 [] [(12,.b true)] {} (TQ.next rfl (TC.condT rfl Kr (TC.sr (TL.r 1 [] [(2,.i 3)] {} (TL.next rfl (TC.ret (TE.rb (TE.rt ?_))))))))
      exact TE.ret [] (.i 3) {} (by unfold Ji;refine eS (fun z=>(.i z:Value)) ?_;exact Zb h1 (Zi h2 (rfl)))
    · have q2_0:=(Zo h2)
      refine TQ.r 8 [0,0] [(18,.i b_.Hits),(20,.i b_.Scans)] {} (TQ.v (sV (binOp .shl 3 (.i 1) (.i b_.Scans))) 21 (.i (w64 (1 * 2 ^ (min b_.Scans.toNat 64)))) (fun w hM=>MP sd) rfl {} (TQ.r 12 [] [(12,.b (decide (b_.Hits ≥ (w64 (1 * 2 ^ (min b_.Scans.toNat 64))))))] {} (TQ.next rfl (TC.cond (decide (b_.Hits ≥ (w64 (1 * 2 ^ (min b_.Scans.toNat 64))))) rfl Kr (fun h3=>?_) (fun h3=>?_)))))
      · refine TC.sr (TL.r 1 [] [(2,.i 3)] {} (TL.next rfl (TC.ret (TE.rb (TE.rt ?_)))))
        exact TE.ret [] (.i 3) {} (by unfold Ji;refine eS (fun z=>(.i z:Value)) ?_;exact Zb h1 (Zb h2 (Zi h3 (rfl))))
      · exact TC.skip (TE.nb (TE.nr (TL.r 1 [] [(2,.i 0)] {} (TL.next rfl (TC.ret (TE.ret [] (.i 0) {} (by unfold Ji;refine eS (fun z=>(.i z:Value)) ?_;exact Zb h1 (Zb h2 (Zb h3 (rfl))))))))))
def Q9 (b_:Zc) (last:Int):Int :=
  let r1:=QF (YO (ZE .i64 b_.Hits (w64 ((w64 (1 * 2 ^ (min last.toNat 64))) - 1))))
  r1
set_option maxRecDepth 100000 in
theorem K3 (b_:Zc) (last:Int) (w:World) (h0:0 ≤ last):Calls Tryz.prog 192 #[Zc.v b_,.int .i64 last] w (Ret w (.int .i64 (Q9 b_ last))):=by
  exact Zk (vs:=[Zc.v b_,.i last]) (w:=w) Tryz.func192 rfl Tryz.ntmps192 rfl (TC.sr (TL.nw 2 (fun b1=>.p0 b1) (fun b1=>Bk b1 (Zc.c b_) 120) (fun b1=>{}) (fun b1=>TL.r 2 [] [(4,.i 0)] {} (TL.ns (TC.draw 9 Kr Kr Kr (TQ.r 3 [0] [(6,.i b_.Hits),(7,.i last)] {} (TQ.v (sV (binOp .shl 3 (.i 1) (.i last))) 8 (.i (w64 (1 * 2 ^ (min last.toNat 64)))) (fun w hM=>MP h0) rfl {} (TQ.r 7 [] [(11,.int .u64 (YO (ZE .i64 b_.Hits (w64 ((w64 (1 * 2 ^ (min last.toNat 64))) - 1)))))] {} (TQ.c 12 (QF (YO (ZE .i64 b_.Hits (w64 ((w64 (1 * 2 ^ (min last.toNat 64))) - 1))))) (fun r1=>.i r1) (fun w _=>VJ (YO (ZE .i64 b_.Hits (w64 ((w64 (1 * 2 ^ (min last.toNat 64))) - 1)))) w) rfl {} (fun r1 hr1=>TQ.r 9 [] [(4,.i r1)] {} (TQ.next rfl (TC.ret (TE.ret [] (.i r1) {} (by unfold Q9;refine eS (fun z=>(.i z:Value)) ?_;subst hr1;exact rfl))))))))))))))
def JW (b_:Zc) (need:Int) (of_:Int):Nat → Nat → ((Unit) ⊕ (Zc × Int))
  | 0,_=>.inl ()
  | m + 1,k=>let r2:=Q9 (⟨kor .i64 (ZE .i64 (w64 (b_.Hits * 2 ^ 1)) 65535) 1,Ym 16 (w64 (b_.Scans + 1))⟩:Zc) (w64 (of_ - (1 + (k:Int))))
    cond ((decide (r2 > 0)) && (decide ((w64 (r2 + (1 + (k:Int)))) ≥ need))) (
      .inr ((⟨kor .i64 (ZE .i64 (w64 (b_.Hits * 2 ^ 1)) 65535) 1,Ym 16 (w64 (b_.Scans + 1))⟩:Zc),0)) (
      JW b_ need of_ m (k + 1))
def JX (b_:Zc) (need:Int) (of_:Int):Nat → Nat → ((Unit) ⊕ (Zc × Int))
  | 0,_=>.inl ()
  | m + 1,k_2=>let r4:=Q9 (⟨ZE .i64 (w64 (b_.Hits * 2 ^ 1)) 65535,Ym 16 (w64 (b_.Scans + 1))⟩:Zc) (w64 (of_ - (1 + (k_2:Int))))
    cond ((decide (r4 > 0)) && (decide ((w64 (r4 + (1 + (k_2:Int)))) ≥ need))) (
      .inr ((⟨ZE .i64 (w64 (b_.Hits * 2 ^ 1)) 65535,Ym 16 (w64 (b_.Scans + 1))⟩:Zc),0)) (
      JX b_ need of_ m (k_2 + 1))
def XY (b_:Zc) (hit:Bool) (need:Int) (of_:Int):Zc × Int :=
  cond hit (
    let r1:=Q9 (⟨kor .i64 (ZE .i64 (w64 (b_.Hits * 2 ^ 1)) 65535) 1,Ym 16 (w64 (b_.Scans + 1))⟩:Zc) of_
    cond (decide (r1 ≥ need)) (
      ((⟨kor .i64 (ZE .i64 (w64 (b_.Hits * 2 ^ 1)) 65535) 1,Ym 16 (w64 (b_.Scans + 1))⟩:Zc),1)) (
      cond (decide ((Ym 16 (w64 (b_.Scans + 1))) < of_)) (
        ((⟨kor .i64 (ZE .i64 (w64 (b_.Hits * 2 ^ 1)) 65535) 1,Ym 16 (w64 (b_.Scans + 1))⟩:Zc),0)) (
        Sum.elim (fun _ =>
          ((⟨kor .i64 (ZE .i64 (w64 (b_.Hits * 2 ^ 1)) 65535) 1,Ym 16 (w64 (b_.Scans + 1))⟩:Zc),2)) (fun r=>r) (JW b_ need of_ ((of_ - 1).toNat) 0)))) (
    let r3:=Q9 (⟨ZE .i64 (w64 (b_.Hits * 2 ^ 1)) 65535,Ym 16 (w64 (b_.Scans + 1))⟩:Zc) of_
    cond (decide (r3 ≥ need)) (
      ((⟨ZE .i64 (w64 (b_.Hits * 2 ^ 1)) 65535,Ym 16 (w64 (b_.Scans + 1))⟩:Zc),1)) (
      cond (decide ((Ym 16 (w64 (b_.Scans + 1))) < of_)) (
        ((⟨ZE .i64 (w64 (b_.Hits * 2 ^ 1)) 65535,Ym 16 (w64 (b_.Scans + 1))⟩:Zc),0)) (
        Sum.elim (fun _ =>
          ((⟨ZE .i64 (w64 (b_.Hits * 2 ^ 1)) 65535,Ym 16 (w64 (b_.Scans + 1))⟩:Zc),2)) (fun r=>r) (JX b_ need of_ ((of_ - 1).toNat) 0))))
set_option maxHeartbeats 4000000 in
set_option maxRecDepth 100000 in
theorem BS (b_:Zc) (hit:Bool) (need:Int) (of_:Int) (w:World) (hof:1 ≤ of_ ∧ of_ ≤ 16):Calls Tryz.prog 156 #[Zc.v b_,.bool hit,.int .i64 need,.int .i64 of_] w (Ret w (.tuple #[Zc.v ((XY b_ hit need of_).1),.int .i64 ((XY b_ hit need of_).2)])):=by
  refine Zk (vs:=[Zc.v b_,.b hit,.i need,.i of_]) (w:=w) Tryz.func156 rfl Tryz.ntmps156 rfl (TC.sr (TL.nw 4 (fun b1=>.p0 b1) (fun b1=>Bk b1 (Zc.c b_) 120) (fun b1=>{}) (fun b1=>TL.nw 8 (fun b2=>.p0 b2) (fun b2=>Bk b2 (Zc.c Zc.zero) 120) (fun b2=>{}) (fun b2=>TL.r 3 [] [(9,.i 0)] {} (TL.nr (TL.r 5 [1] [(15,.i (ZE .i64 (w64 (b_.Hits * 2 ^ 1)) 65535)),(16,.p0 b1)] {} (TL.s 1 (Bk b1 (Zc.c (⟨ZE .i64 (w64 (b_.Hits * 2 ^ 1)) 65535,b_.Scans⟩:Zc)) 120) (fun _=>{}) (TL.ns (TC.sr (TL.r 1 [] [(17,.b hit)] {} (TL.next rfl (TC.cond hit rfl Kr (fun h1=>?_) (fun h1=>?_)))))))))))))
  · refine TC.region (TL.r 4 [1] [(20,.i (kor .i64 (ZE .i64 (w64 (b_.Hits * 2 ^ 1)) 65535) 1)),(21,.p0 b1)] {} (TL.s 1 (Bk b1 (Zc.c (⟨kor .i64 (ZE .i64 (w64 (b_.Hits * 2 ^ 1)) 65535) 1,b_.Scans⟩:Zc)) 120) (fun _=>{}) (TL.nr (TL.r 5 [1] [(25,.i (Ym 16 (w64 (b_.Scans + 1)))),(26,.pt b1 1)] {} (TL.s 1 (Bk b1 (Zc.c (⟨kor .i64 (ZE .i64 (w64 (b_.Hits * 2 ^ 1)) 65535) 1,Ym 16 (w64 (b_.Scans + 1))⟩:Zc)) 120) (fun _=>{}) (TL.ns (TC.sr (TL.r 2 [1] [(27,Zc.v (⟨kor .i64 (ZE .i64 (w64 (b_.Hits * 2 ^ 1)) 65535) 1,Ym 16 (w64 (b_.Scans + 1))⟩:Zc)),(28,.i of_)] {} (TL.c 29 (Q9 (⟨kor .i64 (ZE .i64 (w64 (b_.Hits * 2 ^ 1)) 65535) 1,Ym 16 (w64 (b_.Scans + 1))⟩:Zc) of_) (fun r1=>.i r1) (fun w _=>K3 (⟨kor .i64 (ZE .i64 (w64 (b_.Hits * 2 ^ 1)) 65535) 1,Ym 16 (w64 (b_.Scans + 1))⟩:Zc) of_ w (by have m0_:=BE 16 (w64 (b_.Scans + 1));have m1_:=BF 16 (w64 (b_.Scans + 1));have m2_:=Wx 16 (w64 (b_.Scans + 1));exact sg)) {} (fun r1 hr1=>TL.r 5 [] [(31,.b (decide (r1 ≥ need)))] {} (TL.next rfl (TC.cond (decide (r1 ≥ need)) rfl Kr (fun h2=>?_) (fun h2=>?_)))))))))))))
    · exact TC.sr (TL.r 1 [1] [(32,Zc.v (⟨kor .i64 (ZE .i64 (w64 (b_.Hits * 2 ^ 1)) 65535) 1,Ym 16 (w64 (b_.Scans + 1))⟩:Zc))] {} (TL.s 0 (Bk b2 (Zc.c (⟨kor .i64 (ZE .i64 (w64 (b_.Hits * 2 ^ 1)) 65535) 1,Ym 16 (w64 (b_.Scans + 1))⟩:Zc)) 120) (fun _=>{}) (TL.r 3 [] [(9,.i 1)] {} (TL.next rfl (TC.ret (TE.rt (TE.ret [0] (.tuple #[Zc.v (⟨kor .i64 (ZE .i64 (w64 (b_.Hits * 2 ^ 1)) 65535) 1,Ym 16 (w64 (b_.Scans + 1))⟩:Zc),.i 1]) {} (by unfold XY;refine eS (a:=((⟨kor .i64 (ZE .i64 (w64 (b_.Hits * 2 ^ 1)) 65535) 1,Ym 16 (w64 (b_.Scans + 1))⟩:Zc),1)) (fun (z:Zc × Int)=>(.tuple #[Zc.v z.1,.i z.2]:Value)) ?_;subst hr1;exact Zi h1 (Zi h2 (rfl))))))))))
    · have q2_0:=(Zo h2)
      refine TC.sn (TC.seq (TC.sr (TL.r 4 [1] [(36,.b (decide ((Ym 16 (w64 (b_.Scans + 1))) < of_)))] {} (TL.next rfl (TC.cond (decide ((Ym 16 (w64 (b_.Scans + 1))) < of_)) rfl Kr (fun h3=>?_) (fun h3=>?_))))))
      · exact TC.sr (TL.r 1 [1] [(37,Zc.v (⟨kor .i64 (ZE .i64 (w64 (b_.Hits * 2 ^ 1)) 65535) 1,Ym 16 (w64 (b_.Scans + 1))⟩:Zc))] {} (TL.s 0 (Bk b2 (Zc.c (⟨kor .i64 (ZE .i64 (w64 (b_.Hits * 2 ^ 1)) 65535) 1,Ym 16 (w64 (b_.Scans + 1))⟩:Zc)) 120) (fun _=>{}) (TL.r 3 [] [(9,.i 0)] {} (TL.next rfl (TC.ret (TE.rt (TE.ret [0] (.tuple #[Zc.v (⟨kor .i64 (ZE .i64 (w64 (b_.Hits * 2 ^ 1)) 65535) 1,Ym 16 (w64 (b_.Scans + 1))⟩:Zc),.i 0]) {} (by unfold XY;refine eS (a:=((⟨kor .i64 (ZE .i64 (w64 (b_.Hits * 2 ^ 1)) 65535) 1,Ym 16 (w64 (b_.Scans + 1))⟩:Zc),0)) (fun (z:Zc × Int)=>(.tuple #[Zc.v z.1,.i z.2]:Value)) ?_;subst hr1;exact Zi h1 (Zb h2 (Zi h3 (rfl)))))))))))
      · have q3_0:=(Zo h3)
        refine TC.sn (TC.seq (TC.sr (TL.r 1 [] [(10,.i 1)] {} (TL.next rfl ?_))))
        obtain ⟨R1,hR⟩:∃ R,R=JW b_ need of_ ((of_ - 1).toNat) 0:=⟨_,rfl⟩
        refine TC.cut (S:=Unit) (fun (_:Unit)=>[(4,.p0 b1),(8,.p0 b2)]) (fun (_:Unit)=>[Bk b2 (Zc.c Zc.zero) 120,Bk b1 (Zc.c (⟨kor .i64 (ZE .i64 (w64 (b_.Hits * 2 ^ 1)) 65535) 1,Ym 16 (w64 (b_.Scans + 1))⟩:Zc)) 120]) (fun (_:Unit)=>R1=.inl ()) ?_ ?_
        · refine TC.block (TC.rw 10 (.i 1) (.i (1 + ((0:Nat):Int))) Kr (int_eq (by first | omega | (rw [Zm (by omega)];omega) | (simp only [Y4];omega))) (TC.lw (X:=Nat) (fun k=>[(2,.i need),(3,.i of_),(4,.p0 b1),(8,.p0 b2),(10,.i (1 + (k:Int)))]) (fun k=>[Bk b2 (Zc.c Zc.zero) 120,Bk b1 (Zc.c (⟨kor .i64 (ZE .i64 (w64 (b_.Hits * 2 ^ 1)) 65535) 1,Ym 16 (w64 (b_.Scans + 1))⟩:Zc)) 120]) (fun k=>((of_ - 1).toNat) - k) (fun k=>k ≤ ((of_ - 1).toNat) ∧ R1=JW b_ need of_ (((of_ - 1).toNat) - k) k) ?_ 0 ⟨Nat.zero_le _,hR⟩ Kr (sb 3)))
          rintro k ⟨hk,hI⟩
          refine TC.seq (TC.sr (TL.r 3 [] [(40,.b (decide ((1 + (k:Int)) < of_)))] {} (TL.next rfl (TC.cond (decide ((1 + (k:Int)) < of_)) rfl Kr (fun h4=>?_) (fun h4=>?_)))))
          · have hlt:k < ((of_ - 1).toNat):=by have p0_:=(Z4 h4);first | omega | (simp only [Y4] at *;omega)
            have hd:((of_ - 1).toNat) - k=(((of_ - 1).toNat) - (k + 1)) + 1:=by omega
            have q4_0:=(Z4 h4)
            refine TC.sn (TC.seq (TC.block (TC.sr (TL.r 4 [1] [(43,Zc.v (⟨kor .i64 (ZE .i64 (w64 (b_.Hits * 2 ^ 1)) 65535) 1,Ym 16 (w64 (b_.Scans + 1))⟩:Zc)),(46,.i (w64 (of_ - (1 + (k:Int)))))] {} (TL.c 47 (Q9 (⟨kor .i64 (ZE .i64 (w64 (b_.Hits * 2 ^ 1)) 65535) 1,Ym 16 (w64 (b_.Scans + 1))⟩:Zc) (w64 (of_ - (1 + (k:Int))))) (fun r2=>.i r2) (fun w _=>K3 (⟨kor .i64 (ZE .i64 (w64 (b_.Hits * 2 ^ 1)) 65535) 1,Ym 16 (w64 (b_.Scans + 1))⟩:Zc) (w64 (of_ - (1 + (k:Int)))) w (by have m0_:=BE 16 (w64 (b_.Scans + 1));have m1_:=BF 16 (w64 (b_.Scans + 1));have m2_:=Wx 16 (w64 (b_.Scans + 1));exact sg)) {} (fun r2 hr2=>TL.r 6 [] [(11,.i r2)] {} (TL.nr (TL.r 3 [] [(50,.b (decide (r2 > 0)))] {} (TL.j 50 (decide (r2 > 0)) 9 [] [] (fun β=>[(56,.b (β && (decide ((w64 (r2 + (1 + (k:Int)))) ≥ need))))]) Kr {} {} (TL.next rfl (TC.cond ((decide (r2 > 0)) && (decide ((w64 (r2 + (1 + (k:Int)))) ≥ need))) rfl Kr (fun h5=>?_) (fun h5=>?_))))))))))))
            · refine TC.sr (TL.r 1 [1] [(57,Zc.v (⟨kor .i64 (ZE .i64 (w64 (b_.Hits * 2 ^ 1)) 65535) 1,Ym 16 (w64 (b_.Scans + 1))⟩:Zc))] {} (TL.s 0 (Bk b2 (Zc.c (⟨kor .i64 (ZE .i64 (w64 (b_.Hits * 2 ^ 1)) 65535) 1,Ym 16 (w64 (b_.Scans + 1))⟩:Zc)) 120) (fun _=>{}) (TL.r 3 [] [(9,.i 0)] {} (TL.next rfl (TC.ret (TE.rb (TE.rt (TE.rt (TE.rb (TE.rt (TE.rt ?_)))))))))))
              exact TE.ret [0] (.tuple #[Zc.v (⟨kor .i64 (ZE .i64 (w64 (b_.Hits * 2 ^ 1)) 65535) 1,Ym 16 (w64 (b_.Scans + 1))⟩:Zc),.i 0]) {} (by unfold XY;refine eS (a:=((⟨kor .i64 (ZE .i64 (w64 (b_.Hits * 2 ^ 1)) 65535) 1,Ym 16 (w64 (b_.Scans + 1))⟩:Zc),0)) (fun (z:Zc × Int)=>(.tuple #[Zc.v z.1,.i z.2]:Value)) ?_;subst hr1 hr2;exact Zi h1 (Zb h2 (Zb h3 (X7 (hR.symm.trans (hI.trans (by rw [hd];exact Zi h5 (rfl)))) rfl))))
            · have q5_0:=((Xw h5).imp (fun h=>(Zo h)) (fun h=>(Zo h)))
              exact TC.skip (TE.nb (TE.next (TC.region (TL.r 3 [] [(10,.i (w64 ((1 + (k:Int)) + 1)))] {} (TL.done rfl (TE.rw 10 (.i (w64 ((1 + (k:Int)) + 1))) (.i (1 + ((k + 1:Nat):Int))) Kr (int_eq (by first | omega | (rw [Zm (by omega)];omega) | (simp only [Y4] at *;omega))) (TE.again (x:=k) (k + 1) ⟨by omega,hI.trans (by subst hr1 hr2;rw [hd];exact Zb h5 (rfl))⟩ (mN hlt) Kr (sb 3))))))))
          · have hd:((of_ - 1).toNat) - k=0:=by have p0_:=(Zo h4);first | omega | (simp only [Y4] at *;omega)
            refine TC.exit (TE.et (TE.et (TE.exit_same ?_)))
            exact TE.cut () (hI.trans (by subst hr1;rw [hd];exact rfl)) Kr (sb 3)
        · intro _ hJ
          exact TE.nr (TL.r 1 [1] [(58,Zc.v (⟨kor .i64 (ZE .i64 (w64 (b_.Hits * 2 ^ 1)) 65535) 1,Ym 16 (w64 (b_.Scans + 1))⟩:Zc))] {} (TL.s 0 (Bk b2 (Zc.c (⟨kor .i64 (ZE .i64 (w64 (b_.Hits * 2 ^ 1)) 65535) 1,Ym 16 (w64 (b_.Scans + 1))⟩:Zc)) 120) (fun _=>{}) (TL.r 3 [] [(9,.i 2)] {} (TL.next rfl (TC.ret (TE.ret [0] (.tuple #[Zc.v (⟨kor .i64 (ZE .i64 (w64 (b_.Hits * 2 ^ 1)) 65535) 1,Ym 16 (w64 (b_.Scans + 1))⟩:Zc),.i 2]) {} (by unfold XY;refine eS (a:=((⟨kor .i64 (ZE .i64 (w64 (b_.Hits * 2 ^ 1)) 65535) 1,Ym 16 (w64 (b_.Scans + 1))⟩:Zc),2)) (fun (z:Zc × Int)=>(.tuple #[Zc.v z.1,.i z.2]:Value)) ?_;subst hr1;exact Zi h1 (Zb h2 (Zb h3 (XI (hR.symm.trans hJ) (rfl)))))))))))
  · refine TC.snr (TL.r 5 [1] [(25,.i (Ym 16 (w64 (b_.Scans + 1)))),(26,.pt b1 1)] {} (TL.s 1 (Bk b1 (Zc.c (⟨ZE .i64 (w64 (b_.Hits * 2 ^ 1)) 65535,Ym 16 (w64 (b_.Scans + 1))⟩:Zc)) 120) (fun _=>{}) (TL.ns (TC.sr (TL.r 2 [1] [(27,Zc.v (⟨ZE .i64 (w64 (b_.Hits * 2 ^ 1)) 65535,Ym 16 (w64 (b_.Scans + 1))⟩:Zc)),(28,.i of_)] {} (TL.c 29 (Q9 (⟨ZE .i64 (w64 (b_.Hits * 2 ^ 1)) 65535,Ym 16 (w64 (b_.Scans + 1))⟩:Zc) of_) (fun r3=>.i r3) (fun w _=>K3 (⟨ZE .i64 (w64 (b_.Hits * 2 ^ 1)) 65535,Ym 16 (w64 (b_.Scans + 1))⟩:Zc) of_ w (by have m0_:=BE 16 (w64 (b_.Scans + 1));have m1_:=BF 16 (w64 (b_.Scans + 1));have m2_:=Wx 16 (w64 (b_.Scans + 1));exact sg)) {} (fun r3 hr3=>TL.r 5 [] [(31,.b (decide (r3 ≥ need)))] {} (TL.next rfl (TC.cond (decide (r3 ≥ need)) rfl Kr (fun h6=>?_) (fun h6=>?_))))))))))
    · exact TC.sr (TL.r 1 [1] [(32,Zc.v (⟨ZE .i64 (w64 (b_.Hits * 2 ^ 1)) 65535,Ym 16 (w64 (b_.Scans + 1))⟩:Zc))] {} (TL.s 0 (Bk b2 (Zc.c (⟨ZE .i64 (w64 (b_.Hits * 2 ^ 1)) 65535,Ym 16 (w64 (b_.Scans + 1))⟩:Zc)) 120) (fun _=>{}) (TL.r 3 [] [(9,.i 1)] {} (TL.next rfl (TC.ret (TE.rt (TE.ret [0] (.tuple #[Zc.v (⟨ZE .i64 (w64 (b_.Hits * 2 ^ 1)) 65535,Ym 16 (w64 (b_.Scans + 1))⟩:Zc),.i 1]) {} (by unfold XY;refine eS (a:=((⟨ZE .i64 (w64 (b_.Hits * 2 ^ 1)) 65535,Ym 16 (w64 (b_.Scans + 1))⟩:Zc),1)) (fun (z:Zc × Int)=>(.tuple #[Zc.v z.1,.i z.2]:Value)) ?_;subst hr3;exact Zb h1 (Zi h6 (rfl))))))))))
    · have q6_0:=(Zo h6)
      refine TC.sn (TC.seq (TC.sr (TL.r 4 [1] [(36,.b (decide ((Ym 16 (w64 (b_.Scans + 1))) < of_)))] {} (TL.next rfl (TC.cond (decide ((Ym 16 (w64 (b_.Scans + 1))) < of_)) rfl Kr (fun h7=>?_) (fun h7=>?_))))))
      · exact TC.sr (TL.r 1 [1] [(37,Zc.v (⟨ZE .i64 (w64 (b_.Hits * 2 ^ 1)) 65535,Ym 16 (w64 (b_.Scans + 1))⟩:Zc))] {} (TL.s 0 (Bk b2 (Zc.c (⟨ZE .i64 (w64 (b_.Hits * 2 ^ 1)) 65535,Ym 16 (w64 (b_.Scans + 1))⟩:Zc)) 120) (fun _=>{}) (TL.r 3 [] [(9,.i 0)] {} (TL.next rfl (TC.ret (TE.rt (TE.ret [0] (.tuple #[Zc.v (⟨ZE .i64 (w64 (b_.Hits * 2 ^ 1)) 65535,Ym 16 (w64 (b_.Scans + 1))⟩:Zc),.i 0]) {} (by unfold XY;refine eS (a:=((⟨ZE .i64 (w64 (b_.Hits * 2 ^ 1)) 65535,Ym 16 (w64 (b_.Scans + 1))⟩:Zc),0)) (fun (z:Zc × Int)=>(.tuple #[Zc.v z.1,.i z.2]:Value)) ?_;subst hr3;exact Zb h1 (Zb h6 (Zi h7 (rfl)))))))))))
      · have q7_0:=(Zo h7)
        refine TC.sn (TC.seq (TC.sr (TL.r 1 [] [(10,.i 1)] {} (TL.next rfl ?_))))
        obtain ⟨R2,hR_2⟩:∃ R,R=JX b_ need of_ ((of_ - 1).toNat) 0:=⟨_,rfl⟩
        refine TC.cut (S:=Unit) (fun (_:Unit)=>[(4,.p0 b1),(8,.p0 b2)]) (fun (_:Unit)=>[Bk b2 (Zc.c Zc.zero) 120,Bk b1 (Zc.c (⟨ZE .i64 (w64 (b_.Hits * 2 ^ 1)) 65535,Ym 16 (w64 (b_.Scans + 1))⟩:Zc)) 120]) (fun (_:Unit)=>R2=.inl ()) ?_ ?_
        · refine TC.block (TC.rw 10 (.i 1) (.i (1 + ((0:Nat):Int))) Kr (int_eq (by first | omega | (rw [Zm (by omega)];omega) | (simp only [Y4];omega))) (TC.lw (X:=Nat) (fun k_2=>[(2,.i need),(3,.i of_),(4,.p0 b1),(8,.p0 b2),(10,.i (1 + (k_2:Int)))]) (fun k_2=>[Bk b2 (Zc.c Zc.zero) 120,Bk b1 (Zc.c (⟨ZE .i64 (w64 (b_.Hits * 2 ^ 1)) 65535,Ym 16 (w64 (b_.Scans + 1))⟩:Zc)) 120]) (fun k_2=>((of_ - 1).toNat) - k_2) (fun k_2=>k_2 ≤ ((of_ - 1).toNat) ∧ R2=JX b_ need of_ (((of_ - 1).toNat) - k_2) k_2) ?_ 0 ⟨Nat.zero_le _,hR_2⟩ Kr (sb 3)))
          rintro k_2 ⟨hk_2,hI_2⟩
          refine TC.seq (TC.sr (TL.r 3 [] [(40,.b (decide ((1 + (k_2:Int)) < of_)))] {} (TL.next rfl (TC.cond (decide ((1 + (k_2:Int)) < of_)) rfl Kr (fun h8=>?_) (fun h8=>?_)))))
          · have hlt_2:k_2 < ((of_ - 1).toNat):=by have p0_:=(Z4 h8);first | omega | (simp only [Y4] at *;omega)
            have hd_2:((of_ - 1).toNat) - k_2=(((of_ - 1).toNat) - (k_2 + 1)) + 1:=by omega
            have q8_0:=(Z4 h8)
            refine TC.sn (TC.seq (TC.block (TC.sr (TL.r 4 [1] [(43,Zc.v (⟨ZE .i64 (w64 (b_.Hits * 2 ^ 1)) 65535,Ym 16 (w64 (b_.Scans + 1))⟩:Zc)),(46,.i (w64 (of_ - (1 + (k_2:Int)))))] {} (TL.c 47 (Q9 (⟨ZE .i64 (w64 (b_.Hits * 2 ^ 1)) 65535,Ym 16 (w64 (b_.Scans + 1))⟩:Zc) (w64 (of_ - (1 + (k_2:Int))))) (fun r4=>.i r4) (fun w _=>K3 (⟨ZE .i64 (w64 (b_.Hits * 2 ^ 1)) 65535,Ym 16 (w64 (b_.Scans + 1))⟩:Zc) (w64 (of_ - (1 + (k_2:Int)))) w (by have m0_:=BE 16 (w64 (b_.Scans + 1));have m1_:=BF 16 (w64 (b_.Scans + 1));have m2_:=Wx 16 (w64 (b_.Scans + 1));exact sg)) {} (fun r4 hr4=>TL.r 6 [] [(11,.i r4)] {} (TL.nr (TL.r 3 [] [(50,.b (decide (r4 > 0)))] {} (TL.j 50 (decide (r4 > 0)) 9 [] [] (fun β=>[(56,.b (β && (decide ((w64 (r4 + (1 + (k_2:Int)))) ≥ need))))]) Kr {} {} (TL.next rfl (TC.cond ((decide (r4 > 0)) && (decide ((w64 (r4 + (1 + (k_2:Int)))) ≥ need))) rfl Kr (fun h9=>?_) (fun h9=>?_))))))))))))
            · refine TC.sr (TL.r 1 [1] [(57,Zc.v (⟨ZE .i64 (w64 (b_.Hits * 2 ^ 1)) 65535,Ym 16 (w64 (b_.Scans + 1))⟩:Zc))] {} (TL.s 0 (Bk b2 (Zc.c (⟨ZE .i64 (w64 (b_.Hits * 2 ^ 1)) 65535,Ym 16 (w64 (b_.Scans + 1))⟩:Zc)) 120) (fun _=>{}) (TL.r 3 [] [(9,.i 0)] {} (TL.next rfl (TC.ret (TE.rb (TE.rt (TE.rt (TE.rb (TE.rt (TE.rt ?_)))))))))))
              exact TE.ret [0] (.tuple #[Zc.v (⟨ZE .i64 (w64 (b_.Hits * 2 ^ 1)) 65535,Ym 16 (w64 (b_.Scans + 1))⟩:Zc),.i 0]) {} (by unfold XY;refine eS (a:=((⟨ZE .i64 (w64 (b_.Hits * 2 ^ 1)) 65535,Ym 16 (w64 (b_.Scans + 1))⟩:Zc),0)) (fun (z:Zc × Int)=>(.tuple #[Zc.v z.1,.i z.2]:Value)) ?_;subst hr3 hr4;exact Zb h1 (Zb h6 (Zb h7 (X7 (hR_2.symm.trans (hI_2.trans (by rw [hd_2];exact Zi h9 (rfl)))) rfl))))
            · have q9_0:=((Xw h9).imp (fun h=>(Zo h)) (fun h=>(Zo h)))
              exact TC.skip (TE.nb (TE.next (TC.region (TL.r 3 [] [(10,.i (w64 ((1 + (k_2:Int)) + 1)))] {} (TL.done rfl (TE.rw 10 (.i (w64 ((1 + (k_2:Int)) + 1))) (.i (1 + ((k_2 + 1:Nat):Int))) Kr (int_eq (by first | omega | (rw [Zm (by omega)];omega) | (simp only [Y4] at *;omega))) (TE.again (x:=k_2) (k_2 + 1) ⟨by omega,hI_2.trans (by subst hr3 hr4;rw [hd_2];exact Zb h9 (rfl))⟩ (mN hlt_2) Kr (sb 3))))))))
          · have hd_2:((of_ - 1).toNat) - k_2=0:=by have p0_:=(Zo h8);first | omega | (simp only [Y4] at *;omega)
            refine TC.exit (TE.et (TE.et (TE.exit_same ?_)))
            exact TE.cut () (hI_2.trans (by subst hr3;rw [hd_2];exact rfl)) Kr (sb 3)
        · intro _ hJ_2
          exact TE.nr (TL.r 1 [1] [(58,Zc.v (⟨ZE .i64 (w64 (b_.Hits * 2 ^ 1)) 65535,Ym 16 (w64 (b_.Scans + 1))⟩:Zc))] {} (TL.s 0 (Bk b2 (Zc.c (⟨ZE .i64 (w64 (b_.Hits * 2 ^ 1)) 65535,Ym 16 (w64 (b_.Scans + 1))⟩:Zc)) 120) (fun _=>{}) (TL.r 3 [] [(9,.i 2)] {} (TL.next rfl (TC.ret (TE.ret [0] (.tuple #[Zc.v (⟨ZE .i64 (w64 (b_.Hits * 2 ^ 1)) 65535,Ym 16 (w64 (b_.Scans + 1))⟩:Zc),.i 2]) {} (by unfold XY;refine eS (a:=((⟨ZE .i64 (w64 (b_.Hits * 2 ^ 1)) 65535,Ym 16 (w64 (b_.Scans + 1))⟩:Zc),2)) (fun (z:Zc × Int)=>(.tuple #[Zc.v z.1,.i z.2]:Value)) ?_;subst hr3;exact Zb h1 (Zb h6 (Zb h7 (XI (hR_2.symm.trans hJ_2) (rfl)))))))))))
def QA (b_:Zc) (hit:Bool) (need:Int) (of_:Int):Zc × Int × Int :=
  let r1:=Ji b_
  cond (r1 != 0) (
    ((⟨0,0⟩:Zc),0,r1)) (
    let r2:=Xr need of_
    cond (r2 != 0) (
      ((⟨0,0⟩:Zc),0,r2)) (
      let r3:=XY b_ hit need of_
      (r3.1,r3.2,0)))
theorem S1 {need of_ r:Int} (hr:Xr need of_=r) (h:(r != 0)=false):1 ≤ of_ ∧ of_ ≤ 16:=by
  subst hr
  unfold Xr at h
  cases hc:((((decide (of_ < 1)) || (decide (of_ > 16))) || (decide (need < 1))) || (decide (need > of_))) with
  | true=>simp only [hc,cond_true] at h;cases h
  | false =>
    have q:=Zt (Zt hc)
    have q1:=Zo (Zt q)
    have q2:=Zo (ZR q)
    omega
set_option maxRecDepth 100000 in
theorem BU (b_:Zc) (hit:Bool) (need:Int) (of_:Int) (w:World):Calls Tryz.prog 113 #[Zc.v b_,.bool hit,.int .i64 need,.int .i64 of_] w (Ret w (.tuple #[Zc.v ((QA b_ hit need of_).1),.int .i64 ((QA b_ hit need of_).2.1),.int .i64 ((QA b_ hit need of_).2.2)])):=by
  refine Zk (vs:=[Zc.v b_,.b hit,.i need,.i of_]) (w:=w) Tryz.func113 rfl Tryz.ntmps113 rfl (TC.sr (TL.nw 4 (fun b1=>.p0 b1) (fun b1=>Bk b1 (Zc.c b_) 120) (fun b1=>{}) (fun b1=>TL.nw 8 (fun b2=>.p0 b2) (fun b2=>Bk b2 (Zc.c Zc.zero) 120) (fun b2=>{}) (fun b2=>TL.r 4 [] [(9,.i 0),(10,.i 0)] {} (TL.ns (TC.sr (TL.r 1 [1] [(14,Zc.v b_)] {} (TL.c 15 (Ji b_) (fun r1=>.i r1) (fun w _=>HL b_ w) {} (fun r1 hr1=>TL.r 3 [] [(11,.i r1)] {} (TL.nr (TL.r 2 [] [(17,.b (r1 != 0))] {} (TL.next rfl (TC.cond (r1 != 0) rfl Kr (fun h1=>?_) (fun h1=>?_))))))))))))))
  · exact TC.sr (TL.r 2 [] [(18,Zc.v Zc.zero),(19,.i r1)] {} (TL.s 0 (Bk b2 (Zc.c Zc.zero) 120) (fun _=>{}) (TL.r 5 [] [(9,.i 0),(10,.i r1)] {} (TL.next rfl (TC.ret (TE.rt (TE.ret [0] (.tuple #[Zc.v (⟨0,0⟩:Zc),.i 0,.i r1]) {} (by unfold QA;refine eS (a:=((⟨0,0⟩:Zc),0,r1)) (fun (z:Zc × Int × Int)=>(.tuple #[Zc.v z.1,.i z.2.1,.i z.2.2]:Value)) ?_;subst hr1;exact Zi h1 (rfl)))))))))
  · refine TC.sn (TC.seq (TC.sr (TL.r 2 [] [(20,.i need),(21,.i of_)] {} (TL.c 22 (Xr need of_) (fun r2=>.i r2) (fun w _=>KV need of_ w) {} (fun r2 hr2=>TL.r 4 [] [(12,.i r2)] {} (TL.nr (TL.r 2 [] [(24,.b (r2 != 0))] {} (TL.next rfl (TC.cond (r2 != 0) rfl Kr (fun h2=>?_) (fun h2=>?_))))))))))
    · exact TC.sr (TL.r 2 [] [(25,Zc.v Zc.zero),(26,.i r2)] {} (TL.s 0 (Bk b2 (Zc.c Zc.zero) 120) (fun _=>{}) (TL.r 5 [] [(9,.i 0),(10,.i r2)] {} (TL.next rfl (TC.ret (TE.rt (TE.ret [0] (.tuple #[Zc.v (⟨0,0⟩:Zc),.i 0,.i r2]) {} (by unfold QA;refine eS (a:=((⟨0,0⟩:Zc),0,r2)) (fun (z:Zc × Int × Int)=>(.tuple #[Zc.v z.1,.i z.2.1,.i z.2.2]:Value)) ?_;subst hr1 hr2;exact Zb h1 (Zi h2 (rfl))))))))))
    · exact TC.snr (TL.r 4 [1] [(28,Zc.v b_),(29,.b hit),(30,.i need),(31,.i of_)] {} (TL.c 32 (XY b_ hit need of_) (fun r3=>.tuple #[Zc.v r3.1,.i r3.2]) (fun w _=>BS b_ hit need of_ w (S1 hr2 h2)) {} (fun r3 hr3=>TL.r 8 [] [(33,Zc.v r3.1),(34,.i r3.2)] {} (TL.s 1 (Bk b1 (Zc.c r3.1) 120) (fun _=>{}) (TL.r 10 [] [(13,.i r3.2)] {} (TL.nr (TL.r 2 [1] [(35,Zc.v r3.1),(36,.i r3.2)] {} (TL.s 0 (Bk b2 (Zc.c r3.1) 120) (fun _=>{}) (TL.r 5 [] [(9,.i r3.2),(10,.i 0)] {} (TL.next rfl (TC.ret (TE.ret [0] (.tuple #[Zc.v r3.1,.i r3.2,.i 0]) {} (by unfold QA;refine eS (a:=(r3.1,r3.2,0)) (fun (z:Zc × Int × Int)=>(.tuple #[Zc.v z.1,.i z.2.1,.i z.2.2]:Value)) ?_;subst hr1 hr2 hr3;exact Zb h1 (Zb h2 (rfl)))))))))))))))
end Go.Sky
end
section
namespace Go.Eng
section
variable {G:Type} {P:Program} {n:Nat} {w0:Ctx} {ops:Array Oper} {base:Z9} {vals:G → List Value} {writes:List Nat} {mem:List Bool → G → Mem}
end
end Go.Eng
namespace Go.Eng
section
variable {G:Type} {P:Program} {n:Nat} {w0:Ctx} {ops:Array Oper} {base:Z9} {vals:G → List Value} {writes:List Nat} {mem:List Bool → G → Mem}
theorem Steps.opL {Γ:Type} (set:Γ → G → G) (E:G → Mem) (E':Γ → G → Mem) (X:(Nat → Bool) → G → Mem) (D:List Nat) (s:G → Sem Next) (d:Option Tmp) (v:Γ → G → Value) {i:Nat}
    (hpre:∀ S γ,S i=false → (∀ e:Nat,(Qf ops.toList i).contains e=true → S e=true) → (∀ k:Nat,(Qf ops.toList k).contains i=true → S k=false) → (mem (writes.map S) γ).Perm (E γ ++ X S γ))
    (hpost:∀ S γ g,S i=false → (∀ e:Nat,(Qf ops.toList i).contains e=true → S e=true) → (∀ k:Nat,(Qf ops.toList k).contains i=true → S k=false) → (E' g γ ++ X S γ).Perm (mem (writes.map (upS S i)) (set g γ)))
    (hv:∀ γ M' w,Sat w0 (E γ ++ M') w → ∃ g w',(s γ).run P w=.ok (.value (v g γ)) w' ∧ Sat w0 (E' g γ ++ M') w')
    (hs:∀ γ,semAt ops.toList (VI ops.toList base (vals γ)) i=some (s γ,d)) (hval:∀ γ g,(vals (set g γ))[i]?=some (v g γ))
    (hD:Su ops.toList i D=true) (hmask:∀ γ g,VP D 0 (vals (set g γ))=VP D 0 (vals γ))
    (h:Steps P w0 ops base vals writes mem (ops.toList.drop (i + 1)) (i + 1)):Steps P w0 ops base vals writes mem (ops.toList.drop i) i:=by
  refine Steps.cons_of (fun o ho S γ w hSi hd hc hMw=>?_) h
  obtain ⟨o',h1,h2,h3,h4⟩:=K8 (hs γ)
  rw [ho] at h1
  simp only [Option.some.injEq] at h1
  subst h1
  have hd':∀ e:Nat,(Qf ops.toList i).contains e=true → S e=true:=fun e he=>hd e (by unfold Qf at he;rw [ho] at he;simpa using he)
  rw [h2]
  simp only
  unfold V0
  obtain ⟨g,w',hr,hM'⟩:=hv γ _ w (hMw.perm (hpre S γ hSi hd' (Vi hSi hc)))
  rw [h3,hr]
  exact ⟨set g γ,agree hD hSi hc (hmask γ g),hval γ g,hM'.perm (hpost S γ g hSi hd' (Vi hSi hc))⟩
end
end Go.Eng
namespace Go.Eng
section
variable {P:Program} {ops hd:Array Oper} {Q:Exit → Act → World → Prop} {N:Nat}
end
section
variable {G:Type} {P:Program} {n:Nat} {w0:Ctx} {ops:Array Oper} {base:Z9} {vals:G → List Value} {writes:List Nat} {mem:List Bool → G → Mem}
end
end Go.Eng
end
